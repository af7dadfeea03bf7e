/- TopCarried: what the law stands on, part 5. No condition. -/
import Derived.Test.YteadamkkbgnpeaaGreatT04
import Derived.WalkMore
section OfQTCx4
namespace Go.Proofs.YteadamkkbgnpeaaGreat.QTC
open Go.RowKit YteadamkkbgnpeaaGreatW.PrintWords YteadamkkbgnpeaaGreatW.PrintLast YteadamkkbgnpeaaGreatW.PrintMore
attribute [local go_sem] max2_int min2_int max_two min_two max_three min_three max_four min_four   -- for this text's walks alone
set_option linter.unusedVariables false
set_option linter.unusedSimpArgs false
def peer_Peer_Hear.j0 : Nat → Int → Int → Bool → Bool → Int → Int → Int → Int → Option (Bool × Int × Bool × Int × Int × Int × Int)
 | 0, _, _, _, _, _, _, _, _ => none
 | k + 1, x1, x2, x21, x1000, x1001, x1002, x1003, x1004 => if x21 = true then (some (false, 1, x1000, x1001, x1002, x1003, x1004)) else ((peer_Peer_Heard.f k x1000 x1001 x1002 x1003 x1004 x1).bind fun bt135 => (if bt135.1 = true then (some (false, 23, bt135.2.1, bt135.2.2.1, bt135.2.2.2.1, bt135.2.2.2.2.1, bt135.2.2.2.2.2)) else (if x1 ≤ bt135.2.2.1 then (if 0 ≤ (IntKind.u64.wrap (bt135.2.2.1 - x1)) then (some (false, 0, bt135.2.1, bt135.2.2.1, Go.bits .or .u64 bt135.2.2.2.1 (shl .u64 1 (IntKind.u64.wrap (bt135.2.2.1 - x1))), bt135.2.2.2.2.1, bt135.2.2.2.2.2)) else (none)) else ((peer_Peer_From.f bt135.2.1 bt135.2.2.1 bt135.2.2.2.1 bt135.2.2.2.2.1 bt135.2.2.2.2.2).bind fun bt141 => (if (IntKind.u64.wrap (x1 - bt141.2.2.2.1)) ≥ 64 then (if bt141.2.1 = true then (if bt141.1 = x2 then (some ((bt141.1 != x2), 0, bt141.2.2.1, x1, Go.bits .or .u64 0 1, x2, bt141.2.2.2.2.2.2)) else (some ((bt141.1 != x2), 0, bt141.2.2.1, x1, Go.bits .or .u64 0 1, x2, wrap64 (bt141.2.2.2.2.2.2 + 1)))) else (some (true, 0, bt141.2.2.1, x1, Go.bits .or .u64 0 1, x2, bt141.2.2.2.2.2.2))) else (if 0 ≤ (IntKind.u64.wrap (x1 - bt141.2.2.2.1)) then (if bt141.2.1 = true then (if bt141.1 = x2 then (some ((bt141.1 != x2), 0, bt141.2.2.1, x1, Go.bits .or .u64 (shl .u64 bt141.2.2.2.2.1 (IntKind.u64.wrap (x1 - bt141.2.2.2.1))) 1, x2, bt141.2.2.2.2.2.2)) else (some ((bt141.1 != x2), 0, bt141.2.2.1, x1, Go.bits .or .u64 (shl .u64 bt141.2.2.2.2.1 (IntKind.u64.wrap (x1 - bt141.2.2.2.1))) 1, x2, wrap64 (bt141.2.2.2.2.2.2 + 1)))) else (some (true, 0, bt141.2.2.1, x1, Go.bits .or .u64 (shl .u64 bt141.2.2.2.2.1 (IntKind.u64.wrap (x1 - bt141.2.2.2.1))) 1, x2, bt141.2.2.2.2.2.2))) else (none)))))))
def peer_Peer_Hear.f (k : Nat) (s0_0 : Bool) (s0_1 : Int) (s0_2 : Int) (s0_3 : Int) (s0_4 : Int) (a1 : Int) (a2 : Int) : Option (Bool × Int × Bool × Int × Int × Int × Int) := if s0_0 = true then (if a1 < 1 then (peer_Peer_Hear.j0 k a1 a2 true s0_0 s0_1 s0_2 s0_3 s0_4) else (peer_Peer_Hear.j0 k a1 a2 (decide (a1 > 9223372036854775807)) s0_0 s0_1 s0_2 s0_3 s0_4)) else (some (false, 6, s0_0, s0_1, s0_2, s0_3, s0_4))
def peer_Peer_Hear.T8 : Bool × List (List Nat × List Nat) := (true, [([], []), ([0], [0]), ([1], [1]), ([2], [2]), ([3], [3]), ([], []), ([5], [5]), ([6], [6]), ([7], [7]), ([8], [8]), ([], []), ([9, 10], [9, 10]), ([11], [11]), ([4, 12], [4, 12]), ([0, 0, 1, 2, 3, 4, 5, 6, 7, 8, 9, 10, 11, 12, 13], [0]), ([14, 0, 1, 2, 3, 4, 5, 6, 7, 8, 9, 10, 11, 12, 13], [14]), ([15, 0, 1, 2, 3, 4, 5, 6, 7, 8, 9, 10, 11, 12, 13], [15]), ([16, 13, 0, 1, 2, 3, 4, 5, 6, 7, 8, 9, 10, 11, 12, 13], [13, 16])])
def peer_Peer_Hear.B8 : List Nat := [0, 1, 3, 7, 15, 0, 32, 96, 224, 480, 0, 2016, 4064, 8191, 16383, 32767, 65535, 131071]
theorem peer_Peer_Hear.tab8 : rtab .any (opsOf Tryz.f20 8) = peer_Peer_Hear.T8 := by kernel_rfl
theorem peer_Peer_Hear.bits8 : waitsOk peer_Peer_Hear.T8.2 peer_Peer_Hear.B8 = true := by kernel_rfl
set_option maxHeartbeats 8000000 in
set_option maxRecDepth 100000 in
theorem peer_Peer_Hear.calls (k : Nat) (g : Nat) (s0_0 : Bool) (s0_1 : Int) (s0_2 : Int) (s0_3 : Int) (s0_4 : Int) (a1 : Int) (a2 : Int) (r1 : Bool) (r2 : Int) (r3 : Bool) (r4 : Int) (r5 : Int) (r6 : Int) (r7 : Int) (w0 w : World) (hI : IsS88 w0 w g s0_0 s0_1 s0_2 s0_3 s0_4) (hB : Below w0.heap.size w0 w) (h : peer_Peer_Hear.f k s0_0 s0_1 s0_2 s0_3 s0_4 a1 a2 = some (r1, r2, r3, r4, r5, r6, r7)) :
  Calls Tryz.prog 20 #[.pointer (some ⟨g, 0, none⟩), .int .u64 a1, .int .u32 a2] w fun e w' => e = .returned (.tuple #[.bool r1, .int .i64 r2]) ∧ IsS88 w0 w' g r3 r4 r5 r6 r7 ∧ Below w0.heap.size w0 w' ∧ KeepBut w w' g none := by
 have hu86 := Tryz.underlying86
 have HI0 := Aside0.mk hI
 have HK := Aside0.mk (KeepBut.refl w g none)
 have HL := Aside0.mk hB.size
 clear hI
 have HW0 := Aside0.mk hB.size
 have HB := Aside0.mk hB
 clear hB
 have H : (if s0_0 = true then (if a1 < 1 then (peer_Peer_Hear.j0 k a1 a2 true s0_0 s0_1 s0_2 s0_3 s0_4) else (peer_Peer_Hear.j0 k a1 a2 (decide (a1 > 9223372036854775807)) s0_0 s0_1 s0_2 s0_3 s0_4)) else (some (false, 6, s0_0, s0_1, s0_2, s0_3, s0_4))) = some (r1, r2, r3, r4, r5, r6, r7) := h
 clear h
 by_cases c4 : s0_0 = true
 ·subst c4
  have H1 : (if a1 < 1 then (peer_Peer_Hear.j0 k a1 a2 true true s0_1 s0_2 s0_3 s0_4) else (peer_Peer_Hear.j0 k a1 a2 (decide (a1 > 9223372036854775807)) true s0_1 s0_2 s0_3 s0_4)) = some (r1, r2, r3, r4, r5, r6, r7) := by rw [if_pos rfl] at H; exact H
  clear H
  have H := H1
  clear H1
  have HC5 := Aside0.mk H
  clear H
  obtain ⟨HGz6, hgz6⟩ := HI0.out
  have hcz6_0 := cellS88_0 HGz6
  have hcz6_1 := cellS88_1 HGz6
  have hcz6_2 := cellS88_2 HGz6
  have hcz6_3 := cellS88_3 HGz6
  have hcz6_4 := cellS88_4 HGz6
  have hfz6_0 := blk_frozen HGz6 0
  have hfz6_1 := blk_frozen HGz6 1
  have hfz6_2 := blk_frozen HGz6 2
  have hfz6_3 := blk_frozen HGz6 3
  have hfz6_4 := blk_frozen HGz6 4
  clear HGz6 hgz6
  go_enter Tryz.func20, Tryz.ntmps20
  go_upto_region 3 with (fail)
  go_cut [21] (fun v21 wc => ∃ (kq : Nat) (x21_4 : Bool), v21 = .bool x21_4 ∧ Aside0 (peer_Peer_Hear.j0 kq a1 a2 x21_4 true s0_1 s0_2 s0_3 s0_4 = some (r1, r2, r3, r4, r5, r6, r7)) ∧ Aside0 (kq ≤ k) ∧ Aside0 (IsS88 w0 wc g true s0_1 s0_2 s0_3 s0_4) ∧ Aside0 (KeepBut w wc g none) ∧ Aside0 (Below w0.heap.size w0 wc))
  case first =>
   have H := HC5.out
   clear HC5
   by_cases c7 : a1 < 1
   ·rw [if_pos c7] at H
    have c7b0 : decide (a1 < 1) = true := decide_eq_true c7
    clear c7
    (first | rw [c7b0] | (simp only [i64_w, i32_w]; rw [c7b0]) | skip)
    have H' := Aside0.mk H
    clear H
    go_wp2
    go_meet
    case rel => exact ⟨_, (true), (by first | rfl | (simp; done) | (simp [*]; done)), H', ⟨by first | omega | exact Nat.le_refl _⟩, ⟨by repeat (first | (with_reducible first | exact HI0.out | apply IsS88.alloc | apply IsS88.drewN | apply IsS88.drew | apply IsS88.set_0 | apply IsS88.set_1 | apply IsS88.set_2 | apply IsS88.set_3 | apply IsS88.set_4) | exact HI0.out)⟩, ⟨by repeat (first | (with_reducible first | exact HK.out | apply KeepBut.set_ | apply keep_drewN | apply keep_drew | apply keep_alloc) | exact HK.out)⟩, ⟨by repeat (first | (with_reducible first | exact HB.out | apply below_alloc | apply pw_below_drewN | apply below_drew1 | refine below_set ?_ (IsS88.ge HI0.out)) | exact HB.out)⟩⟩
   ·rw [if_neg c7] at H
    have c7b0 : decide (a1 < 1) = false := decide_eq_false c7
    clear c7
    (first | rw [c7b0] | (simp only [i64_w, i32_w]; rw [c7b0]) | skip)
    have H' := Aside0.mk H
    clear H
    go_wp2
    go_meet
    case rel => exact ⟨_, (decide (a1 > 9223372036854775807)), (by first | rfl | (simp; done) | (simp [*]; done)), H', ⟨by first | omega | exact Nat.le_refl _⟩, ⟨by repeat (first | (with_reducible first | exact HI0.out | apply IsS88.alloc | apply IsS88.drewN | apply IsS88.drew | apply IsS88.set_0 | apply IsS88.set_1 | apply IsS88.set_2 | apply IsS88.set_3 | apply IsS88.set_4) | exact HI0.out)⟩, ⟨by repeat (first | (with_reducible first | exact HK.out | apply KeepBut.set_ | apply keep_drewN | apply keep_drew | apply keep_alloc) | exact HK.out)⟩, ⟨by repeat (first | (with_reducible first | exact HB.out | apply below_alloc | apply pw_below_drewN | apply below_drew1 | refine below_set ?_ (IsS88.ge HI0.out)) | exact HB.out)⟩⟩
  case rest =>
   clear HC5
   try clear c2
   try clear p2
   try clear c4
   try clear c7
   try clear c7b0
   try clear hcz6_0
   try clear hcz6_1
   try clear hcz6_2
   try clear hcz6_3
   try clear hcz6_4
   try clear hfz6_0
   try clear hfz6_1
   try clear hfz6_2
   try clear hfz6_3
   try clear hfz6_4
   obtain ⟨kq, x21_4, rfl, HA, HJ4, HI0, HK, HB⟩ := hcut
   cases kq with
   | zero => exact absurd HA.out (by simp [peer_Peer_Hear.j0])
   | succ kj4 =>
    have H := HA.out
    clear HA
    simp only [peer_Peer_Hear.j0] at H
    by_cases c8 : x21_4 = true
    ·subst c8
     have H1 : (some (false, 1, true, s0_1, s0_2, s0_3, s0_4)) = some (r1, r2, r3, r4, r5, r6, r7) := by rw [if_pos rfl] at H; exact H
     clear H
     have H := H1
     clear H1
     simp only [Option.some.injEq, Prod.mk.injEq] at H
     obtain ⟨rfl, rfl, rfl, rfl, rfl, rfl, rfl⟩ := H
     go_wp2
     go_ret2
     exact ⟨by first | rfl | (simp [] <;> rfl) | (simp [*] <;> rfl), by repeat (first | (with_reducible first | exact HI0.out | apply IsS88.alloc | apply IsS88.drewN | apply IsS88.drew | apply IsS88.set_0 | apply IsS88.set_1 | apply IsS88.set_2 | apply IsS88.set_3 | apply IsS88.set_4) | exact HI0.out), by repeat (first | (with_reducible first | exact HB.out | apply below_alloc | apply pw_below_drewN | apply below_drew1 | refine below_set ?_ (IsS88.ge HI0.out)) | exact HB.out), by repeat (first | (with_reducible first | exact HK.out | apply KeepBut.set_ | apply keep_drewN | apply keep_drew | apply keep_alloc) | exact HK.out)⟩
    ·replace c8 := Bool.eq_false_iff.mpr c8
     subst c8
     have H1 : ((peer_Peer_Heard.f kj4 true s0_1 s0_2 s0_3 s0_4 a1).bind fun bt135 => (if bt135.1 = true then (some (false, 23, bt135.2.1, bt135.2.2.1, bt135.2.2.2.1, bt135.2.2.2.2.1, bt135.2.2.2.2.2)) else (if a1 ≤ bt135.2.2.1 then (if 0 ≤ (IntKind.u64.wrap (bt135.2.2.1 - a1)) then (some (false, 0, bt135.2.1, bt135.2.2.1, Go.bits .or .u64 bt135.2.2.2.1 (shl .u64 1 (IntKind.u64.wrap (bt135.2.2.1 - a1))), bt135.2.2.2.2.1, bt135.2.2.2.2.2)) else (none)) else ((peer_Peer_From.f bt135.2.1 bt135.2.2.1 bt135.2.2.2.1 bt135.2.2.2.2.1 bt135.2.2.2.2.2).bind fun bt141 => (if (IntKind.u64.wrap (a1 - bt141.2.2.2.1)) ≥ 64 then (if bt141.2.1 = true then (if bt141.1 = a2 then (some ((bt141.1 != a2), 0, bt141.2.2.1, a1, Go.bits .or .u64 0 1, a2, bt141.2.2.2.2.2.2)) else (some ((bt141.1 != a2), 0, bt141.2.2.1, a1, Go.bits .or .u64 0 1, a2, wrap64 (bt141.2.2.2.2.2.2 + 1)))) else (some (true, 0, bt141.2.2.1, a1, Go.bits .or .u64 0 1, a2, bt141.2.2.2.2.2.2))) else (if 0 ≤ (IntKind.u64.wrap (a1 - bt141.2.2.2.1)) then (if bt141.2.1 = true then (if bt141.1 = a2 then (some ((bt141.1 != a2), 0, bt141.2.2.1, a1, Go.bits .or .u64 (shl .u64 bt141.2.2.2.2.1 (IntKind.u64.wrap (a1 - bt141.2.2.2.1))) 1, a2, bt141.2.2.2.2.2.2)) else (some ((bt141.1 != a2), 0, bt141.2.2.1, a1, Go.bits .or .u64 (shl .u64 bt141.2.2.2.2.1 (IntKind.u64.wrap (a1 - bt141.2.2.2.1))) 1, a2, wrap64 (bt141.2.2.2.2.2.2 + 1)))) else (some (true, 0, bt141.2.2.1, a1, Go.bits .or .u64 (shl .u64 bt141.2.2.2.2.1 (IntKind.u64.wrap (a1 - bt141.2.2.2.1))) 1, a2, bt141.2.2.2.2.2.2))) else (none))))))) = some (r1, r2, r3, r4, r5, r6, r7) := by rw [if_neg (show ¬ (false = true) by decide)] at H; exact H
     clear H
     have H := H1
     clear H1
     replace H := Option.bind_eq_some_iff.mp H
     obtain ⟨⟨t135, t136, t137, t138, t139, t140⟩, A90, H⟩ := H
     replace H : (if t135 = true then (some (false, 23, t136, t137, t138, t139, t140)) else (if a1 ≤ t137 then (if 0 ≤ (IntKind.u64.wrap (t137 - a1)) then (some (false, 0, t136, t137, Go.bits .or .u64 t138 (shl .u64 1 (IntKind.u64.wrap (t137 - a1))), t139, t140)) else (none)) else ((peer_Peer_From.f t136 t137 t138 t139 t140).bind fun bt141 => (if (IntKind.u64.wrap (a1 - bt141.2.2.2.1)) ≥ 64 then (if bt141.2.1 = true then (if bt141.1 = a2 then (some ((bt141.1 != a2), 0, bt141.2.2.1, a1, Go.bits .or .u64 0 1, a2, bt141.2.2.2.2.2.2)) else (some ((bt141.1 != a2), 0, bt141.2.2.1, a1, Go.bits .or .u64 0 1, a2, wrap64 (bt141.2.2.2.2.2.2 + 1)))) else (some (true, 0, bt141.2.2.1, a1, Go.bits .or .u64 0 1, a2, bt141.2.2.2.2.2.2))) else (if 0 ≤ (IntKind.u64.wrap (a1 - bt141.2.2.2.1)) then (if bt141.2.1 = true then (if bt141.1 = a2 then (some ((bt141.1 != a2), 0, bt141.2.2.1, a1, Go.bits .or .u64 (shl .u64 bt141.2.2.2.2.1 (IntKind.u64.wrap (a1 - bt141.2.2.2.1))) 1, a2, bt141.2.2.2.2.2.2)) else (some ((bt141.1 != a2), 0, bt141.2.2.1, a1, Go.bits .or .u64 (shl .u64 bt141.2.2.2.2.1 (IntKind.u64.wrap (a1 - bt141.2.2.2.1))) 1, a2, wrap64 (bt141.2.2.2.2.2.2 + 1)))) else (some (true, 0, bt141.2.2.1, a1, Go.bits .or .u64 (shl .u64 bt141.2.2.2.2.1 (IntKind.u64.wrap (a1 - bt141.2.2.2.1))) 1, a2, bt141.2.2.2.2.2.2))) else (none)))))) = some (r1, r2, r3, r4, r5, r6, r7) := H
     have A9 := Aside0.mk A90
     clear A90
     by_cases c10 : t135 = true
     ·subst c10
      have H1 : (some (false, 23, t136, t137, t138, t139, t140)) = some (r1, r2, r3, r4, r5, r6, r7) := by rw [if_pos rfl] at H; exact H
      clear H
      have H := H1
      clear H1
      simp only [Option.some.injEq, Prod.mk.injEq] at H
      obtain ⟨rfl, rfl, rfl, rfl, rfl, rfl, rfl⟩ := H
      go_wp2_with (first | ((with_reducible refine gate_callee (f := 39) rfl ?_); refine goesL_ (some 31) rfl rfl Tryz.func39 (by kernel_rfl) rfl #[.pointer (some ⟨g, 0, none⟩), .int .u64 a1] rfl (by (try simp only [List.map_toArray, List.map_cons, List.map_nil]); first | done | rfl | (simp only [List.length_drop, List.length_take]; rfl)) ?_; (with_reducible refine (peer_Peer_Heard.calls kj4 g true s0_1 s0_2 s0_3 s0_4 a1 true t136 t137 t138 t139 t140 w0 _ ?side1 ?side2 A9.out).mono ?_); (case side1 => repeat (first | (with_reducible first | exact HI0.out | apply IsS88.alloc | apply IsS88.drewN | apply IsS88.drew | apply IsS88.set_0 | apply IsS88.set_1 | apply IsS88.set_2 | apply IsS88.set_3 | apply IsS88.set_4) | exact HI0.out)); (case side2 => repeat (first | (with_reducible first | exact HB.out | apply below_alloc | apply pw_below_drewN | apply below_drew1 | refine below_set ?_ (IsS88.ge HI0.out)) | exact HB.out)); rintro e w11 ⟨rfl, hi, hb, hk⟩; refine ⟨_, rfl, ?_⟩; have n0_ := Aside0.mk (KeepBut.trans (by repeat (first | (with_reducible first | exact HK.out | apply KeepBut.set_ | apply keep_drewN | apply keep_drew | apply keep_alloc) | exact HK.out)) hk (.inl rfl)); have n1_ := Aside0.mk (hb); have n2_ := Aside0.mk (hi); clear HK; clear HB; clear HI0; have HK := n0_; have HB := n1_; have HI0 := n2_; clear n0_ n1_ n2_; (try clear hb); (try clear hb2); (try clear hk); (try clear hi)))
      go_ret2
      exact ⟨by first | rfl | (simp [] <;> rfl) | (simp [*] <;> rfl), by repeat (first | (with_reducible first | exact HI0.out | apply IsS88.alloc | apply IsS88.drewN | apply IsS88.drew | apply IsS88.set_0 | apply IsS88.set_1 | apply IsS88.set_2 | apply IsS88.set_3 | apply IsS88.set_4) | exact HI0.out), by repeat (first | (with_reducible first | exact HB.out | apply below_alloc | apply pw_below_drewN | apply below_drew1 | refine below_set ?_ (IsS88.ge HI0.out)) | exact HB.out), by repeat (first | (with_reducible first | exact HK.out | apply KeepBut.set_ | apply keep_drewN | apply keep_drew | apply keep_alloc) | exact HK.out)⟩
     ·replace c10 := Bool.eq_false_iff.mpr c10
      subst c10
      have H1 : (if a1 ≤ t137 then (if 0 ≤ (IntKind.u64.wrap (t137 - a1)) then (some (false, 0, t136, t137, Go.bits .or .u64 t138 (shl .u64 1 (IntKind.u64.wrap (t137 - a1))), t139, t140)) else (none)) else ((peer_Peer_From.f t136 t137 t138 t139 t140).bind fun bt141 => (if (IntKind.u64.wrap (a1 - bt141.2.2.2.1)) ≥ 64 then (if bt141.2.1 = true then (if bt141.1 = a2 then (some ((bt141.1 != a2), 0, bt141.2.2.1, a1, Go.bits .or .u64 0 1, a2, bt141.2.2.2.2.2.2)) else (some ((bt141.1 != a2), 0, bt141.2.2.1, a1, Go.bits .or .u64 0 1, a2, wrap64 (bt141.2.2.2.2.2.2 + 1)))) else (some (true, 0, bt141.2.2.1, a1, Go.bits .or .u64 0 1, a2, bt141.2.2.2.2.2.2))) else (if 0 ≤ (IntKind.u64.wrap (a1 - bt141.2.2.2.1)) then (if bt141.2.1 = true then (if bt141.1 = a2 then (some ((bt141.1 != a2), 0, bt141.2.2.1, a1, Go.bits .or .u64 (shl .u64 bt141.2.2.2.2.1 (IntKind.u64.wrap (a1 - bt141.2.2.2.1))) 1, a2, bt141.2.2.2.2.2.2)) else (some ((bt141.1 != a2), 0, bt141.2.2.1, a1, Go.bits .or .u64 (shl .u64 bt141.2.2.2.2.1 (IntKind.u64.wrap (a1 - bt141.2.2.2.1))) 1, a2, wrap64 (bt141.2.2.2.2.2.2 + 1)))) else (some (true, 0, bt141.2.2.1, a1, Go.bits .or .u64 (shl .u64 bt141.2.2.2.2.1 (IntKind.u64.wrap (a1 - bt141.2.2.2.1))) 1, a2, bt141.2.2.2.2.2.2))) else (none))))) = some (r1, r2, r3, r4, r5, r6, r7) := by rw [if_neg (show ¬ (false = true) by decide)] at H; exact H
      clear H
      have H := H1
      clear H1
      by_cases c12 : a1 ≤ t137
      ·rw [if_pos c12] at H
       have c12b0 : decide (a1 ≤ t137) = true := decide_eq_true c12
       clear c12
       obtain ⟨ji13, hji13⟩ : ∃ j_ : Int, (IntKind.u64.wrap (t137 - a1)) = j_ := ⟨_, rfl⟩
       replace H : (if 0 ≤ (ji13) then (some (false, 0, t136, t137, Go.bits .or .u64 t138 (shl .u64 1 (ji13)), t139, t140)) else (none)) = some (r1, r2, r3, r4, r5, r6, r7) := by first | (rw [hji13] at H; exact H) | (simp only [hji13] at H ⊢; exact H)
       (try rw [hji13] at A9)
       by_cases c14 : 0 ≤ (ji13)
       ·rw [if_pos c14] at H
        have c14b0 := eq_true c14
        have c14b1 : decide (0 ≤ (ji13)) = true := decide_eq_true c14
        clear c14
        obtain ⟨ji15, hji15⟩ : ∃ j_ : Int, (shl .u64 1 (ji13)) = j_ := ⟨_, rfl⟩
        replace H : (some (false, 0, t136, t137, Go.bits .or .u64 t138 (ji15), t139, t140)) = some (r1, r2, r3, r4, r5, r6, r7) := by first | (rw [hji15] at H; exact H) | (simp only [hji15] at H ⊢; exact H)
        (try rw [hji15] at A9)
        have hji15_ : (IntKind.u64.wrap (1 * 2 ^ min (ji13).toNat 64)) = ji15 := hji15
        have hji15z : (ji13) ≤ 64 → (IntKind.u64.wrap (1 * 2 ^ (ji13).toNat)) = ji15 := shl_small hji15
        have hji15u : (IntKind.u64.wrap (2 ^ min (ji13).toNat 64)) = ji15 := by have h_ := hji15_; rw [Int.one_mul] at h_; exact h_
        have hji15v : (ji13) ≤ 64 → (IntKind.u64.wrap (2 ^ (ji13).toNat)) = ji15 := fun hle_ => by have h_ := hji15z hle_; rw [Int.one_mul] at h_; exact h_
        simp only [Option.some.injEq, Prod.mk.injEq] at H
        obtain ⟨rfl, rfl, rfl, rfl, rfl, rfl, rfl⟩ := H
        try go_wp2_with (first | ((with_reducible refine gate_callee (f := 39) rfl ?_); refine goesL_ (some 31) rfl rfl Tryz.func39 (by kernel_rfl) rfl #[.pointer (some ⟨g, 0, none⟩), .int .u64 a1] rfl (by (try simp only [List.map_toArray, List.map_cons, List.map_nil]); first | done | rfl | (simp only [List.length_drop, List.length_take]; rfl)) ?_; (with_reducible refine (peer_Peer_Heard.calls kj4 g true s0_1 s0_2 s0_3 s0_4 a1 false t136 t137 t138 t139 t140 w0 _ ?side1 ?side2 A9.out).mono ?_); (case side1 => repeat (first | (with_reducible first | exact HI0.out | apply IsS88.alloc | apply IsS88.drewN | apply IsS88.drew | apply IsS88.set_0 | apply IsS88.set_1 | apply IsS88.set_2 | apply IsS88.set_3 | apply IsS88.set_4) | exact HI0.out)); (case side2 => repeat (first | (with_reducible first | exact HB.out | apply below_alloc | apply pw_below_drewN | apply below_drew1 | refine below_set ?_ (IsS88.ge HI0.out)) | exact HB.out)); rintro e w16 ⟨rfl, hi, hb, hk⟩; refine ⟨_, rfl, ?_⟩; have n0_ := Aside0.mk (KeepBut.trans (by repeat (first | (with_reducible first | exact HK.out | apply KeepBut.set_ | apply keep_drewN | apply keep_drew | apply keep_alloc) | exact HK.out)) hk (.inl rfl)); have n1_ := Aside0.mk (hb); have n2_ := Aside0.mk (hi); clear HK; clear HB; clear HI0; have HK := n0_; have HB := n1_; have HI0 := n2_; clear n0_ n1_ n2_; (try clear hb); (try clear hb2); (try clear hk); (try clear hi); obtain ⟨HGz17, hgz17⟩ := HI0.out; have hcz17_0 := cellS88_0 HGz17; have hcz17_1 := cellS88_1 HGz17; have hcz17_2 := cellS88_2 HGz17; have hcz17_3 := cellS88_3 HGz17; have hcz17_4 := cellS88_4 HGz17; have hfz17_0 := blk_frozen HGz17 0; have hfz17_1 := blk_frozen HGz17 1; have hfz17_2 := blk_frozen HGz17 2; have hfz17_3 := blk_frozen HGz17 3; have hfz17_4 := blk_frozen HGz17 4; clear HGz17 hgz17))
        have n0_ := Aside0.mk (IsS88.drew HI0.out)
        have n1_ := Aside0.mk (keep_drew HK.out)
        have n2_ := Aside0.mk (below_drew1 HB.out)
        clear HI0
        clear HK
        clear HB
        have HI0 := n0_
        have HK := n1_
        have HB := n2_
        clear n0_ n1_ n2_
        refine start_ (n := 18) (S := fun w' => w'.cell? ⟨g, 0, none⟩ = some (.bool t136) ∧ w'.cell? ⟨g, 1, none⟩ = some (.int .u64 t137) ∧ w'.cell? ⟨g, 2, none⟩ = some (.int .u64 t138) ∧ w'.cell? ⟨g, 3, none⟩ = some (.int .u32 t139) ∧ w'.cell? ⟨g, 4, none⟩ = some (.int .i64 t140)) (ds := [17]) #[false, false, false, false, false, false, false, false, false, false, false, false, false, false, false, false, false, false] (by kernel_rfl) rfl rfl ⟨(blk_cell (show IsS88 w0 _ g t136 t137 t138 t139 t140 from by repeat (first | (with_reducible first | exact HI0.out | apply IsS88.alloc | apply IsS88.drewN | apply IsS88.drew | apply IsS88.set_0 | apply IsS88.set_1 | apply IsS88.set_2 | apply IsS88.set_3 | apply IsS88.set_4) | exact HI0.out)).1 0).trans rfl, (blk_cell (show IsS88 w0 _ g t136 t137 t138 t139 t140 from by repeat (first | (with_reducible first | exact HI0.out | apply IsS88.alloc | apply IsS88.drewN | apply IsS88.drew | apply IsS88.set_0 | apply IsS88.set_1 | apply IsS88.set_2 | apply IsS88.set_3 | apply IsS88.set_4) | exact HI0.out)).1 1).trans rfl, (blk_cell (show IsS88 w0 _ g t136 t137 t138 t139 t140 from by repeat (first | (with_reducible first | exact HI0.out | apply IsS88.alloc | apply IsS88.drewN | apply IsS88.drew | apply IsS88.set_0 | apply IsS88.set_1 | apply IsS88.set_2 | apply IsS88.set_3 | apply IsS88.set_4) | exact HI0.out)).1 2).trans rfl, (blk_cell (show IsS88 w0 _ g t136 t137 t138 t139 t140 from by repeat (first | (with_reducible first | exact HI0.out | apply IsS88.alloc | apply IsS88.drewN | apply IsS88.drew | apply IsS88.set_0 | apply IsS88.set_1 | apply IsS88.set_2 | apply IsS88.set_3 | apply IsS88.set_4) | exact HI0.out)).1 3).trans rfl, (blk_cell (show IsS88 w0 _ g t136 t137 t138 t139 t140 from by repeat (first | (with_reducible first | exact HI0.out | apply IsS88.alloc | apply IsS88.drewN | apply IsS88.drew | apply IsS88.set_0 | apply IsS88.set_1 | apply IsS88.set_2 | apply IsS88.set_3 | apply IsS88.set_4) | exact HI0.out)).1 4).trans rfl⟩ (fun hHeld => ?_); refine with_tabW peer_Peer_Hear.tab8 peer_Peer_Hear.bits8 (fun HT_ HW_ => ?_)
        generalize w16.drew = w18 at HI0 HK HB hHeld ⊢
        refine pure_ (i := 0) (N := some 40) (v := ?_) (a' := ?_) #[true, false, false, false, false, false, false, false, false, false, false, false, false, false, false, false, false, false] rfl rfl (any_of HT_.out (by kernel_rfl)) (fun _ _ _ h => h) (Or.inl ⟨by rfl, ?_⟩) ?_ ?_
        rotate_left
        ·intro w'
         go_simp
         with_reducible rfl
        rotate_left
        ·simp only [Act.put, List.setIfInBounds_toArray, List.set_cons_zero, List.set_cons_succ, i64_w, i32_w]
         rfl
        refine pure_ (i := 1) (N := some 41) (v := ?_) (a' := ?_) #[true, true, false, false, false, false, false, false, false, false, false, false, false, false, false, false, false, false] rfl rfl (any_of HT_.out (by kernel_rfl)) (fun _ _ _ h => h) (Or.inl ⟨by rfl, ?_⟩) ?_ ?_
        rotate_left
        ·intro w'
         go_simp
         with_reducible rfl
        rotate_left
        ·simp only [Act.put, List.setIfInBounds_toArray, List.set_cons_zero, List.set_cons_succ, i64_w, i32_w]
         rfl
        refine pure_ (i := 2) (N := some 42) (v := ?_) (a' := ?_) #[true, true, true, false, false, false, false, false, false, false, false, false, false, false, false, false, false, false] rfl rfl (any_of HT_.out (by kernel_rfl)) (fun _ _ _ h => h) (Or.inl ⟨by rfl, ?_⟩) ?_ ?_
        rotate_left
        ·intro w'
         go_simp
         with_reducible rfl
        rotate_left
        ·simp only [Act.put, List.setIfInBounds_toArray, List.set_cons_zero, List.set_cons_succ, i64_w, i32_w]
         rfl
        refine pure_ (i := 3) (N := some 43) (v := ?_) (a' := ?_) #[true, true, true, true, false, false, false, false, false, false, false, false, false, false, false, false, false, false] rfl rfl (any_of HT_.out (by kernel_rfl)) (fun _ _ _ h => h) (Or.inl ⟨by rfl, ?_⟩) ?_ ?_
        rotate_left
        ·intro w'
         go_simp
         with_reducible rfl
        rotate_left
        ·simp only [Act.put, List.setIfInBounds_toArray, List.set_cons_zero, List.set_cons_succ, i64_w, i32_w]
         rfl
        refine pure_ (i := 5) (N := some 45) (v := ?_) (a' := ?_) #[true, true, true, true, false, true, false, false, false, false, false, false, false, false, false, false, false, false] rfl rfl (any_of HT_.out (by kernel_rfl)) (fun _ _ _ h => h) (Or.inl ⟨by rfl, ?_⟩) ?_ ?_
        rotate_left
        ·intro w'
         go_simp
         with_reducible rfl
        rotate_left
        ·simp only [Act.put, List.setIfInBounds_toArray, List.set_cons_zero, List.set_cons_succ, i64_w, i32_w]
         rfl
        refine pure_ (i := 6) (N := some 46) (v := ?_) (a' := ?_) #[true, true, true, true, false, true, true, false, false, false, false, false, false, false, false, false, false, false] rfl rfl (any_of HT_.out (by kernel_rfl)) (fun _ _ _ h => h) (Or.inl ⟨by rfl, ?_⟩) ?_ ?_
        rotate_left
        ·intro w'
         go_simp
         with_reducible rfl
        rotate_left
        ·simp only [Act.put, List.setIfInBounds_toArray, List.set_cons_zero, List.set_cons_succ, i64_w, i32_w]
         rfl
        refine pure_ (i := 7) (N := some 47) (v := ?_) (a' := ?_) #[true, true, true, true, false, true, true, true, false, false, false, false, false, false, false, false, false, false] rfl rfl (any_of HT_.out (by kernel_rfl)) (fun _ _ _ h => h) (Or.inl ⟨by rfl, ?_⟩) ?_ ?_
        rotate_left
        ·intro w'
         go_simp
         with_reducible rfl
        rotate_left
        ·simp only [Act.put, List.setIfInBounds_toArray, List.set_cons_zero, List.set_cons_succ, i64_w, i32_w]
         rfl
        refine pure_ (i := 8) (N := some 48) (v := ?_) (a' := ?_) #[true, true, true, true, false, true, true, true, true, false, false, false, false, false, false, false, false, false] rfl rfl (any_of HT_.out (by kernel_rfl)) (fun _ _ _ h => h) (Or.inl ⟨by rfl, ?_⟩) ?_ ?_
        rotate_left
        ·intro w'
         go_simp
         with_reducible rfl
        rotate_left
        ·simp only [Act.put, List.setIfInBounds_toArray, List.set_cons_zero, List.set_cons_succ, i64_w, i32_w]
         rfl
        refine pure_ (i := 10) (N := some 50) (v := ?_) (a' := ?_) #[true, true, true, true, false, true, true, true, true, false, true, false, false, false, false, false, false, false] rfl rfl (any_of HT_.out (by kernel_rfl)) (fun _ _ _ h => h) (Or.inl ⟨by rfl, ?_⟩) ?_ ?_
        rotate_left
        ·intro w'
         go_simp
         with_reducible rfl
        rotate_left
        ·simp only [Act.put, List.setIfInBounds_toArray, List.set_cons_zero, List.set_cons_succ, i64_w, i32_w]
         rfl
        refine take_ (i := 4) (N := some 44) (v := ?_) (a' := ?_) #[true, true, true, true, true, true, true, true, true, false, true, false, false, false, false, false, false, false] rfl rfl (take_ofW HT_.out HW_.out (by kernel_rfl)) (fun _ _ _ h => h) (Or.inl ⟨by rfl, ?_⟩) hHeld ?_ ?_
        rotate_left
        ·rintro w' ⟨s0, s1, s2, s3, s4⟩
         go_simp
         with_reducible rfl
        rotate_left
        ·simp only [Act.put, List.setIfInBounds_toArray, List.set_cons_zero, List.set_cons_succ, i64_w, i32_w]
         rfl
        refine take_ (i := 9) (N := some 49) (v := ?_) (a' := ?_) #[true, true, true, true, true, true, true, true, true, true, true, false, false, false, false, false, false, false] rfl rfl (take_ofW HT_.out HW_.out (by kernel_rfl)) (fun _ _ _ h => h) (Or.inl ⟨by rfl, ?_⟩) hHeld ?_ ?_
        rotate_left
        ·rintro w' ⟨s0, s1, s2, s3, s4⟩
         go_simp
         with_reducible rfl
        rotate_left
        ·simp only [Act.put, List.setIfInBounds_toArray, List.set_cons_zero, List.set_cons_succ, i64_w, i32_w]
         rfl
        refine pure_ (i := 11) (N := some 51) (v := ?_) (a' := ?_) #[true, true, true, true, true, true, true, true, true, true, true, true, false, false, false, false, false, false] rfl rfl (any_of HT_.out (by kernel_rfl)) (fun _ _ _ h => h) (Or.inl ⟨by rfl, ?_⟩) ?_ ?_
        rotate_left
        ·intro w'
         go_simp
         with_reducible rfl
        rotate_left
        ·simp only [Act.put, List.setIfInBounds_toArray, List.set_cons_zero, List.set_cons_succ, i64_w, i32_w]
         rfl
        refine pure_ (i := 12) (N := some 52) (v := ?_) (a' := ?_) #[true, true, true, true, true, true, true, true, true, true, true, true, true, false, false, false, false, false] rfl rfl (any_of HT_.out (by kernel_rfl)) (fun _ _ _ h => h) (Or.inl ⟨by rfl, ?_⟩) ?_ ?_
        rotate_left
        ·intro w'
         go_simp
         with_reducible rfl
        rotate_left
        ·simp only [Act.put, List.setIfInBounds_toArray, List.set_cons_zero, List.set_cons_succ, i64_w, i32_w]
         rfl
        refine pure_ (i := 13) (N := some 53) (v := ?_) (a' := ?_) #[true, true, true, true, true, true, true, true, true, true, true, true, true, true, false, false, false, false] rfl rfl (any_of HT_.out (by kernel_rfl)) (fun _ _ _ h => h) (Or.inl ⟨by rfl, ?_⟩) ?_ ?_
        rotate_left
        ·intro w'
         go_simp
         with_reducible rfl
        rotate_left
        ·simp only [Act.put, List.setIfInBounds_toArray, List.set_cons_zero, List.set_cons_succ, i64_w, i32_w]
         rfl
        refine pure_ (i := 14) (N := some 54) (v := ?_) (a' := ?_) #[true, true, true, true, true, true, true, true, true, true, true, true, true, true, true, false, false, false] rfl rfl (any_of HT_.out (by kernel_rfl)) (fun _ _ _ h => h) (Or.inl ⟨by rfl, ?_⟩) ?_ ?_
        rotate_left
        ·intro w'
         go_simp
         with_reducible rfl
        rotate_left
        ·simp only [Act.put, List.setIfInBounds_toArray, List.set_cons_zero, List.set_cons_succ, i64_w, i32_w]
         rfl
        refine pure_ (i := 15) (N := some 55) (v := ?_) (a' := ?_) #[true, true, true, true, true, true, true, true, true, true, true, true, true, true, true, true, false, false] rfl rfl (any_of HT_.out (by kernel_rfl)) (fun _ _ _ h => h) (Or.inl ⟨by rfl, ?_⟩) ?_ ?_
        rotate_left
        ·intro w'
         go_simp
         with_reducible rfl
        rotate_left
        ·simp only [Act.put, List.setIfInBounds_toArray, List.set_cons_zero, List.set_cons_succ, i64_w, i32_w]
         rfl
        refine pure_ (i := 16) (N := some 56) (v := ?_) (a' := ?_) #[true, true, true, true, true, true, true, true, true, true, true, true, true, true, true, true, true, false] rfl rfl (any_of HT_.out (by kernel_rfl)) (fun _ _ _ h => h) (Or.inl ⟨by rfl, ?_⟩) ?_ ?_
        rotate_left
        ·intro w'
         go_simp
         with_reducible rfl
        rotate_left
        ·simp only [Act.put, List.setIfInBounds_toArray, List.set_cons_zero, List.set_cons_succ, i64_w, i32_w]
         rfl
        refine last_ (i := 17) (N := none) #[true, true, true, true, true, true, true, true, true, true, true, true, true, true, true, true, true, true] rfl rfl (one_of HT_.out (by kernel_rfl)) (by decide) (fun K hK => ?_)
        obtain ⟨HGs19, hgs19⟩ := HI0.out
        have hcs19_0 := cellS88_0 HGs19
        have hcs19_1 := cellS88_1 HGs19
        have hcs19_2 := cellS88_2 HGs19
        have hcs19_3 := cellS88_3 HGs19
        have hcs19_4 := cellS88_4 HGs19
        have hfs19_0 := blk_frozen HGs19 0
        have hfs19_1 := blk_frozen HGs19 1
        have hfs19_2 := blk_frozen HGs19 2
        have hfs19_3 := blk_frozen HGs19 3
        have hfs19_4 := blk_frozen HGs19 4
        clear HGs19 hgs19
        refine skip_ (w1 := ?_) (by rfl) rfl ?_ ?_
        rotate_left
        ·go_simp
         rfl
        refine hK.out _ _ ?_
        clear hK K
        refine done_ (done_of HT_.out (by kernel_rfl)) ?_
        try go_wp2
        go_ret2
        exact ⟨by first | rfl | (simp [] <;> rfl) | (simp only [← hji13, ← hji15]; first | rfl | (simp [] <;> rfl)) | (simp [*] <;> rfl), by repeat (first | (with_reducible first | exact HI0.out | apply IsS88.alloc | apply IsS88.drewN | apply IsS88.drew | apply IsS88.set_0 | apply IsS88.set_1 | apply IsS88.set_2 | apply IsS88.set_3 | apply IsS88.set_4) | exact HI0.out), by repeat (first | (with_reducible first | exact HB.out | apply below_alloc | apply pw_below_drewN | apply below_drew1 | refine below_set ?_ (IsS88.ge HI0.out)) | exact HB.out), by repeat (first | (with_reducible first | exact HK.out | apply KeepBut.set_ | apply keep_drewN | apply keep_drew | apply keep_alloc) | exact HK.out)⟩
       ·rw [if_neg c14] at H
        exact absurd H (by simp)
      ·rw [if_neg c12] at H
       have c12b0 : decide (a1 ≤ t137) = false := decide_eq_false c12
       clear c12
       replace H := Option.bind_eq_some_iff.mp H
       obtain ⟨⟨t141, t142, t143, t144, t145, t146, t147⟩, A200, H⟩ := H
       replace H : (if (IntKind.u64.wrap (a1 - t144)) ≥ 64 then (if t142 = true then (if t141 = a2 then (some ((t141 != a2), 0, t143, a1, Go.bits .or .u64 0 1, a2, t147)) else (some ((t141 != a2), 0, t143, a1, Go.bits .or .u64 0 1, a2, wrap64 (t147 + 1)))) else (some (true, 0, t143, a1, Go.bits .or .u64 0 1, a2, t147))) else (if 0 ≤ (IntKind.u64.wrap (a1 - t144)) then (if t142 = true then (if t141 = a2 then (some ((t141 != a2), 0, t143, a1, Go.bits .or .u64 (shl .u64 t145 (IntKind.u64.wrap (a1 - t144))) 1, a2, t147)) else (some ((t141 != a2), 0, t143, a1, Go.bits .or .u64 (shl .u64 t145 (IntKind.u64.wrap (a1 - t144))) 1, a2, wrap64 (t147 + 1)))) else (some (true, 0, t143, a1, Go.bits .or .u64 (shl .u64 t145 (IntKind.u64.wrap (a1 - t144))) 1, a2, t147))) else (none))) = some (r1, r2, r3, r4, r5, r6, r7) := H
       have A20 := Aside0.mk A200
       clear A200
       by_cases c21 : (IntKind.u64.wrap (a1 - t144)) ≥ 64
       ·rw [if_pos c21] at H
        have c21b0 : decide (64 ≤ (IntKind.u64.wrap (a1 - t144))) = true := decide_eq_true c21
        clear c21
        by_cases c22 : t142 = true
        ·subst c22
         have H1 : (if t141 = a2 then (some ((t141 != a2), 0, t143, a1, Go.bits .or .u64 0 1, a2, t147)) else (some ((t141 != a2), 0, t143, a1, Go.bits .or .u64 0 1, a2, wrap64 (t147 + 1)))) = some (r1, r2, r3, r4, r5, r6, r7) := by rw [if_pos rfl] at H; exact H
         clear H
         have H := H1
         clear H1
         by_cases c23 : t141 = a2
         ·rw [if_pos c23] at H
          have c23b0 : (t141 == a2) = true := beq_iff_eq.mpr c23
          have c23b1 : (t141 != a2) = false := bne_eq_false_iff_eq.mpr c23
          clear c23
          simp only [Option.some.injEq, Prod.mk.injEq] at H
          obtain ⟨rfl, rfl, rfl, rfl, rfl, rfl, rfl⟩ := H
          go_wp2_with (first | ((with_reducible refine gate_callee (f := 39) rfl ?_); refine goesL_ (some 31) rfl rfl Tryz.func39 (by kernel_rfl) rfl #[.pointer (some ⟨g, 0, none⟩), .int .u64 a1] rfl (by (try simp only [List.map_toArray, List.map_cons, List.map_nil]); first | done | rfl | (simp only [List.length_drop, List.length_take]; rfl)) ?_; (with_reducible refine (peer_Peer_Heard.calls kj4 g true s0_1 s0_2 s0_3 s0_4 a1 false t136 t137 t138 t139 t140 w0 _ ?side1 ?side2 A9.out).mono ?_); (case side1 => repeat (first | (with_reducible first | exact HI0.out | apply IsS88.alloc | apply IsS88.drewN | apply IsS88.drew | apply IsS88.set_0 | apply IsS88.set_1 | apply IsS88.set_2 | apply IsS88.set_3 | apply IsS88.set_4) | exact HI0.out)); (case side2 => repeat (first | (with_reducible first | exact HB.out | apply below_alloc | apply pw_below_drewN | apply below_drew1 | refine below_set ?_ (IsS88.ge HI0.out)) | exact HB.out)); rintro e w24 ⟨rfl, hi, hb, hk⟩; refine ⟨_, rfl, ?_⟩; have n0_ := Aside0.mk (KeepBut.trans (by repeat (first | (with_reducible first | exact HK.out | apply KeepBut.set_ | apply keep_drewN | apply keep_drew | apply keep_alloc) | exact HK.out)) hk (.inl rfl)); have n1_ := Aside0.mk (hb); have n2_ := Aside0.mk (hi); clear HK; clear HB; clear HI0; have HK := n0_; have HB := n1_; have HI0 := n2_; clear n0_ n1_ n2_; (try clear hb); (try clear hb2); (try clear hk); (try clear hi); obtain ⟨HGz25, hgz25⟩ := HI0.out; have hcz25_0 := cellS88_0 HGz25; have hcz25_1 := cellS88_1 HGz25; have hcz25_2 := cellS88_2 HGz25; have hcz25_3 := cellS88_3 HGz25; have hcz25_4 := cellS88_4 HGz25; have hfz25_0 := blk_frozen HGz25 0; have hfz25_1 := blk_frozen HGz25 1; have hfz25_2 := blk_frozen HGz25 2; have hfz25_3 := blk_frozen HGz25 3; have hfz25_4 := blk_frozen HGz25 4; clear HGz25 hgz25) | ((with_reducible refine gate_callee (f := 23) rfl ?_); refine goesL_ (some 59) rfl rfl Tryz.func23 (by kernel_rfl) rfl #[.pointer (some ⟨g, 0, none⟩)] rfl (by (try simp only [List.map_toArray, List.map_cons, List.map_nil]); first | done | rfl | (simp only [List.length_drop, List.length_take]; rfl)) ?_; (with_reducible refine (peer_Peer_From.calls g t136 t137 t138 t139 t140 t141 true t143 t144 t145 t146 t147 w0 _ ?side1 ?side2 A20.out).mono ?_); (case side1 => repeat (first | (with_reducible first | exact HI0.out | apply IsS88.alloc | apply IsS88.drewN | apply IsS88.drew | apply IsS88.set_0 | apply IsS88.set_1 | apply IsS88.set_2 | apply IsS88.set_3 | apply IsS88.set_4) | exact HI0.out)); (case side2 => repeat (first | (with_reducible first | exact HB.out | apply below_alloc | apply pw_below_drewN | apply below_drew1 | refine below_set ?_ (IsS88.ge HI0.out)) | exact HB.out)); rintro e w26 ⟨rfl, hi, hb, hk⟩; refine ⟨_, rfl, ?_⟩; have n0_ := Aside0.mk (KeepBut.trans (by repeat (first | (with_reducible first | exact HK.out | apply KeepBut.set_ | apply keep_drewN | apply keep_drew | apply keep_alloc) | exact HK.out)) hk (.inl rfl)); have n1_ := Aside0.mk (hb); have n2_ := Aside0.mk (hi); clear HK; clear HB; clear HI0; have HK := n0_; have HB := n1_; have HI0 := n2_; clear n0_ n1_ n2_; (try clear hb); (try clear hb2); (try clear hk); (try clear hi); obtain ⟨HGz27, hgz27⟩ := HI0.out; have hcz27_0 := cellS88_0 HGz27; have hcz27_1 := cellS88_1 HGz27; have hcz27_2 := cellS88_2 HGz27; have hcz27_3 := cellS88_3 HGz27; have hcz27_4 := cellS88_4 HGz27; have hfz27_0 := blk_frozen HGz27 0; have hfz27_1 := blk_frozen HGz27 1; have hfz27_2 := blk_frozen HGz27 2; have hfz27_3 := blk_frozen HGz27 3; have hfz27_4 := blk_frozen HGz27 4; clear HGz27 hgz27))
          go_ret2
          exact ⟨by first | rfl | (simp [] <;> rfl) | (simp [*] <;> rfl), by repeat (first | (with_reducible first | exact HI0.out | apply IsS88.alloc | apply IsS88.drewN | apply IsS88.drew | apply IsS88.set_0 | apply IsS88.set_1 | apply IsS88.set_2 | apply IsS88.set_3 | apply IsS88.set_4) | exact HI0.out), by repeat (first | (with_reducible first | exact HB.out | apply below_alloc | apply pw_below_drewN | apply below_drew1 | refine below_set ?_ (IsS88.ge HI0.out)) | exact HB.out), by repeat (first | (with_reducible first | exact HK.out | apply KeepBut.set_ | apply keep_drewN | apply keep_drew | apply keep_alloc) | exact HK.out)⟩
         ·rw [if_neg c23] at H
          have c23b0 : (t141 == a2) = false := beq_eq_false_iff_ne.mpr c23
          have c23b1 : (t141 != a2) = true := bne_iff_ne.mpr c23
          simp only [Option.some.injEq, Prod.mk.injEq] at H
          obtain ⟨rfl, rfl, rfl, rfl, rfl, rfl, rfl⟩ := H
          go_wp2_with (first | ((with_reducible refine gate_callee (f := 39) rfl ?_); refine goesL_ (some 31) rfl rfl Tryz.func39 (by kernel_rfl) rfl #[.pointer (some ⟨g, 0, none⟩), .int .u64 a1] rfl (by (try simp only [List.map_toArray, List.map_cons, List.map_nil]); first | done | rfl | (simp only [List.length_drop, List.length_take]; rfl)) ?_; (with_reducible refine (peer_Peer_Heard.calls kj4 g true s0_1 s0_2 s0_3 s0_4 a1 false t136 t137 t138 t139 t140 w0 _ ?side1 ?side2 A9.out).mono ?_); (case side1 => repeat (first | (with_reducible first | exact HI0.out | apply IsS88.alloc | apply IsS88.drewN | apply IsS88.drew | apply IsS88.set_0 | apply IsS88.set_1 | apply IsS88.set_2 | apply IsS88.set_3 | apply IsS88.set_4) | exact HI0.out)); (case side2 => repeat (first | (with_reducible first | exact HB.out | apply below_alloc | apply pw_below_drewN | apply below_drew1 | refine below_set ?_ (IsS88.ge HI0.out)) | exact HB.out)); rintro e w28 ⟨rfl, hi, hb, hk⟩; refine ⟨_, rfl, ?_⟩; have n0_ := Aside0.mk (KeepBut.trans (by repeat (first | (with_reducible first | exact HK.out | apply KeepBut.set_ | apply keep_drewN | apply keep_drew | apply keep_alloc) | exact HK.out)) hk (.inl rfl)); have n1_ := Aside0.mk (hb); have n2_ := Aside0.mk (hi); clear HK; clear HB; clear HI0; have HK := n0_; have HB := n1_; have HI0 := n2_; clear n0_ n1_ n2_; (try clear hb); (try clear hb2); (try clear hk); (try clear hi); obtain ⟨HGz29, hgz29⟩ := HI0.out; have hcz29_0 := cellS88_0 HGz29; have hcz29_1 := cellS88_1 HGz29; have hcz29_2 := cellS88_2 HGz29; have hcz29_3 := cellS88_3 HGz29; have hcz29_4 := cellS88_4 HGz29; have hfz29_0 := blk_frozen HGz29 0; have hfz29_1 := blk_frozen HGz29 1; have hfz29_2 := blk_frozen HGz29 2; have hfz29_3 := blk_frozen HGz29 3; have hfz29_4 := blk_frozen HGz29 4; clear HGz29 hgz29) | ((with_reducible refine gate_callee (f := 23) rfl ?_); refine goesL_ (some 59) rfl rfl Tryz.func23 (by kernel_rfl) rfl #[.pointer (some ⟨g, 0, none⟩)] rfl (by (try simp only [List.map_toArray, List.map_cons, List.map_nil]); first | done | rfl | (simp only [List.length_drop, List.length_take]; rfl)) ?_; (with_reducible refine (peer_Peer_From.calls g t136 t137 t138 t139 t140 t141 true t143 t144 t145 t146 t147 w0 _ ?side1 ?side2 A20.out).mono ?_); (case side1 => repeat (first | (with_reducible first | exact HI0.out | apply IsS88.alloc | apply IsS88.drewN | apply IsS88.drew | apply IsS88.set_0 | apply IsS88.set_1 | apply IsS88.set_2 | apply IsS88.set_3 | apply IsS88.set_4) | exact HI0.out)); (case side2 => repeat (first | (with_reducible first | exact HB.out | apply below_alloc | apply pw_below_drewN | apply below_drew1 | refine below_set ?_ (IsS88.ge HI0.out)) | exact HB.out)); rintro e w30 ⟨rfl, hi, hb, hk⟩; refine ⟨_, rfl, ?_⟩; have n0_ := Aside0.mk (KeepBut.trans (by repeat (first | (with_reducible first | exact HK.out | apply KeepBut.set_ | apply keep_drewN | apply keep_drew | apply keep_alloc) | exact HK.out)) hk (.inl rfl)); have n1_ := Aside0.mk (hb); have n2_ := Aside0.mk (hi); clear HK; clear HB; clear HI0; have HK := n0_; have HB := n1_; have HI0 := n2_; clear n0_ n1_ n2_; (try clear hb); (try clear hb2); (try clear hk); (try clear hi); obtain ⟨HGz31, hgz31⟩ := HI0.out; have hcz31_0 := cellS88_0 HGz31; have hcz31_1 := cellS88_1 HGz31; have hcz31_2 := cellS88_2 HGz31; have hcz31_3 := cellS88_3 HGz31; have hcz31_4 := cellS88_4 HGz31; have hfz31_0 := blk_frozen HGz31 0; have hfz31_1 := blk_frozen HGz31 1; have hfz31_2 := blk_frozen HGz31 2; have hfz31_3 := blk_frozen HGz31 3; have hfz31_4 := blk_frozen HGz31 4; clear HGz31 hgz31))
          go_ret2
          exact ⟨by first | rfl | (simp [] <;> rfl) | (simp [*] <;> rfl), by repeat (first | (with_reducible first | exact HI0.out | apply IsS88.alloc | apply IsS88.drewN | apply IsS88.drew | apply IsS88.set_0 | apply IsS88.set_1 | apply IsS88.set_2 | apply IsS88.set_3 | apply IsS88.set_4) | exact HI0.out), by repeat (first | (with_reducible first | exact HB.out | apply below_alloc | apply pw_below_drewN | apply below_drew1 | refine below_set ?_ (IsS88.ge HI0.out)) | exact HB.out), by repeat (first | (with_reducible first | exact HK.out | apply KeepBut.set_ | apply keep_drewN | apply keep_drew | apply keep_alloc) | exact HK.out)⟩
        ·replace c22 := Bool.eq_false_iff.mpr c22
         subst c22
         have H1 : (some (true, 0, t143, a1, Go.bits .or .u64 0 1, a2, t147)) = some (r1, r2, r3, r4, r5, r6, r7) := by rw [if_neg (show ¬ (false = true) by decide)] at H; exact H
         clear H
         have H := H1
         clear H1
         simp only [Option.some.injEq, Prod.mk.injEq] at H
         obtain ⟨rfl, rfl, rfl, rfl, rfl, rfl, rfl⟩ := H
         go_wp2_with (first | ((with_reducible refine gate_callee (f := 39) rfl ?_); refine goesL_ (some 31) rfl rfl Tryz.func39 (by kernel_rfl) rfl #[.pointer (some ⟨g, 0, none⟩), .int .u64 a1] rfl (by (try simp only [List.map_toArray, List.map_cons, List.map_nil]); first | done | rfl | (simp only [List.length_drop, List.length_take]; rfl)) ?_; (with_reducible refine (peer_Peer_Heard.calls kj4 g true s0_1 s0_2 s0_3 s0_4 a1 false t136 t137 t138 t139 t140 w0 _ ?side1 ?side2 A9.out).mono ?_); (case side1 => repeat (first | (with_reducible first | exact HI0.out | apply IsS88.alloc | apply IsS88.drewN | apply IsS88.drew | apply IsS88.set_0 | apply IsS88.set_1 | apply IsS88.set_2 | apply IsS88.set_3 | apply IsS88.set_4) | exact HI0.out)); (case side2 => repeat (first | (with_reducible first | exact HB.out | apply below_alloc | apply pw_below_drewN | apply below_drew1 | refine below_set ?_ (IsS88.ge HI0.out)) | exact HB.out)); rintro e w32 ⟨rfl, hi, hb, hk⟩; refine ⟨_, rfl, ?_⟩; have n0_ := Aside0.mk (KeepBut.trans (by repeat (first | (with_reducible first | exact HK.out | apply KeepBut.set_ | apply keep_drewN | apply keep_drew | apply keep_alloc) | exact HK.out)) hk (.inl rfl)); have n1_ := Aside0.mk (hb); have n2_ := Aside0.mk (hi); clear HK; clear HB; clear HI0; have HK := n0_; have HB := n1_; have HI0 := n2_; clear n0_ n1_ n2_; (try clear hb); (try clear hb2); (try clear hk); (try clear hi); obtain ⟨HGz33, hgz33⟩ := HI0.out; have hcz33_0 := cellS88_0 HGz33; have hcz33_1 := cellS88_1 HGz33; have hcz33_2 := cellS88_2 HGz33; have hcz33_3 := cellS88_3 HGz33; have hcz33_4 := cellS88_4 HGz33; have hfz33_0 := blk_frozen HGz33 0; have hfz33_1 := blk_frozen HGz33 1; have hfz33_2 := blk_frozen HGz33 2; have hfz33_3 := blk_frozen HGz33 3; have hfz33_4 := blk_frozen HGz33 4; clear HGz33 hgz33) | ((with_reducible refine gate_callee (f := 23) rfl ?_); refine goesL_ (some 59) rfl rfl Tryz.func23 (by kernel_rfl) rfl #[.pointer (some ⟨g, 0, none⟩)] rfl (by (try simp only [List.map_toArray, List.map_cons, List.map_nil]); first | done | rfl | (simp only [List.length_drop, List.length_take]; rfl)) ?_; (with_reducible refine (peer_Peer_From.calls g t136 t137 t138 t139 t140 t141 false t143 t144 t145 t146 t147 w0 _ ?side1 ?side2 A20.out).mono ?_); (case side1 => repeat (first | (with_reducible first | exact HI0.out | apply IsS88.alloc | apply IsS88.drewN | apply IsS88.drew | apply IsS88.set_0 | apply IsS88.set_1 | apply IsS88.set_2 | apply IsS88.set_3 | apply IsS88.set_4) | exact HI0.out)); (case side2 => repeat (first | (with_reducible first | exact HB.out | apply below_alloc | apply pw_below_drewN | apply below_drew1 | refine below_set ?_ (IsS88.ge HI0.out)) | exact HB.out)); rintro e w34 ⟨rfl, hi, hb, hk⟩; refine ⟨_, rfl, ?_⟩; have n0_ := Aside0.mk (KeepBut.trans (by repeat (first | (with_reducible first | exact HK.out | apply KeepBut.set_ | apply keep_drewN | apply keep_drew | apply keep_alloc) | exact HK.out)) hk (.inl rfl)); have n1_ := Aside0.mk (hb); have n2_ := Aside0.mk (hi); clear HK; clear HB; clear HI0; have HK := n0_; have HB := n1_; have HI0 := n2_; clear n0_ n1_ n2_; (try clear hb); (try clear hb2); (try clear hk); (try clear hi); obtain ⟨HGz35, hgz35⟩ := HI0.out; have hcz35_0 := cellS88_0 HGz35; have hcz35_1 := cellS88_1 HGz35; have hcz35_2 := cellS88_2 HGz35; have hcz35_3 := cellS88_3 HGz35; have hcz35_4 := cellS88_4 HGz35; have hfz35_0 := blk_frozen HGz35 0; have hfz35_1 := blk_frozen HGz35 1; have hfz35_2 := blk_frozen HGz35 2; have hfz35_3 := blk_frozen HGz35 3; have hfz35_4 := blk_frozen HGz35 4; clear HGz35 hgz35))
         go_ret2
         exact ⟨by first | rfl | (simp [] <;> rfl) | (simp [*] <;> rfl), by repeat (first | (with_reducible first | exact HI0.out | apply IsS88.alloc | apply IsS88.drewN | apply IsS88.drew | apply IsS88.set_0 | apply IsS88.set_1 | apply IsS88.set_2 | apply IsS88.set_3 | apply IsS88.set_4) | exact HI0.out), by repeat (first | (with_reducible first | exact HB.out | apply below_alloc | apply pw_below_drewN | apply below_drew1 | refine below_set ?_ (IsS88.ge HI0.out)) | exact HB.out), by repeat (first | (with_reducible first | exact HK.out | apply KeepBut.set_ | apply keep_drewN | apply keep_drew | apply keep_alloc) | exact HK.out)⟩
       ·rw [if_neg c21] at H
        have c21b0 : decide (64 ≤ (IntKind.u64.wrap (a1 - t144))) = false := decide_eq_false c21
        clear c21
        obtain ⟨ji36, hji36⟩ : ∃ j_ : Int, (IntKind.u64.wrap (a1 - t144)) = j_ := ⟨_, rfl⟩
        replace H : (if 0 ≤ (ji36) then (if t142 = true then (if t141 = a2 then (some ((t141 != a2), 0, t143, a1, Go.bits .or .u64 (shl .u64 t145 (ji36)) 1, a2, t147)) else (some ((t141 != a2), 0, t143, a1, Go.bits .or .u64 (shl .u64 t145 (ji36)) 1, a2, wrap64 (t147 + 1)))) else (some (true, 0, t143, a1, Go.bits .or .u64 (shl .u64 t145 (ji36)) 1, a2, t147))) else (none)) = some (r1, r2, r3, r4, r5, r6, r7) := by first | (rw [hji36] at H; exact H) | (simp only [hji36] at H ⊢; exact H)
        (try rw [hji36] at c21b0)
        (try rw [hji36] at A9)
        (try rw [hji36] at A20)
        by_cases c37 : 0 ≤ (ji36)
        ·rw [if_pos c37] at H
         have c37b0 := eq_true c37
         have c37b1 : decide (0 ≤ (ji36)) = true := decide_eq_true c37
         clear c37
         obtain ⟨ji38, hji38⟩ : ∃ j_ : Int, (shl .u64 t145 (ji36)) = j_ := ⟨_, rfl⟩
         replace H : (if t142 = true then (if t141 = a2 then (some ((t141 != a2), 0, t143, a1, Go.bits .or .u64 (ji38) 1, a2, t147)) else (some ((t141 != a2), 0, t143, a1, Go.bits .or .u64 (ji38) 1, a2, wrap64 (t147 + 1)))) else (some (true, 0, t143, a1, Go.bits .or .u64 (ji38) 1, a2, t147))) = some (r1, r2, r3, r4, r5, r6, r7) := by first | (rw [hji38] at H; exact H) | (simp only [hji38] at H ⊢; exact H)
         (try rw [hji38] at A9)
         (try rw [hji38] at A20)
         have hji38_ : (IntKind.u64.wrap (t145 * 2 ^ min (ji36).toNat 64)) = ji38 := hji38
         have hji38z : (ji36) ≤ 64 → (IntKind.u64.wrap (t145 * 2 ^ (ji36).toNat)) = ji38 := shl_small hji38
         by_cases c39 : t142 = true
         ·subst c39
          have H1 : (if t141 = a2 then (some ((t141 != a2), 0, t143, a1, Go.bits .or .u64 (ji38) 1, a2, t147)) else (some ((t141 != a2), 0, t143, a1, Go.bits .or .u64 (ji38) 1, a2, wrap64 (t147 + 1)))) = some (r1, r2, r3, r4, r5, r6, r7) := by rw [if_pos rfl] at H; exact H
          clear H
          have H := H1
          clear H1
          by_cases c40 : t141 = a2
          ·rw [if_pos c40] at H
           have c40b0 : (t141 == a2) = true := beq_iff_eq.mpr c40
           have c40b1 : (t141 != a2) = false := bne_eq_false_iff_eq.mpr c40
           clear c40
           simp only [Option.some.injEq, Prod.mk.injEq] at H
           obtain ⟨rfl, rfl, rfl, rfl, rfl, rfl, rfl⟩ := H
           go_wp2_with (first | ((with_reducible refine gate_callee (f := 39) rfl ?_); refine goesL_ (some 31) rfl rfl Tryz.func39 (by kernel_rfl) rfl #[.pointer (some ⟨g, 0, none⟩), .int .u64 a1] rfl (by (try simp only [List.map_toArray, List.map_cons, List.map_nil]); first | done | rfl | (simp only [List.length_drop, List.length_take]; rfl)) ?_; (with_reducible refine (peer_Peer_Heard.calls kj4 g true s0_1 s0_2 s0_3 s0_4 a1 false t136 t137 t138 t139 t140 w0 _ ?side1 ?side2 A9.out).mono ?_); (case side1 => repeat (first | (with_reducible first | exact HI0.out | apply IsS88.alloc | apply IsS88.drewN | apply IsS88.drew | apply IsS88.set_0 | apply IsS88.set_1 | apply IsS88.set_2 | apply IsS88.set_3 | apply IsS88.set_4) | exact HI0.out)); (case side2 => repeat (first | (with_reducible first | exact HB.out | apply below_alloc | apply pw_below_drewN | apply below_drew1 | refine below_set ?_ (IsS88.ge HI0.out)) | exact HB.out)); rintro e w41 ⟨rfl, hi, hb, hk⟩; refine ⟨_, rfl, ?_⟩; have n0_ := Aside0.mk (KeepBut.trans (by repeat (first | (with_reducible first | exact HK.out | apply KeepBut.set_ | apply keep_drewN | apply keep_drew | apply keep_alloc) | exact HK.out)) hk (.inl rfl)); have n1_ := Aside0.mk (hb); have n2_ := Aside0.mk (hi); clear HK; clear HB; clear HI0; have HK := n0_; have HB := n1_; have HI0 := n2_; clear n0_ n1_ n2_; (try clear hb); (try clear hb2); (try clear hk); (try clear hi); obtain ⟨HGz42, hgz42⟩ := HI0.out; have hcz42_0 := cellS88_0 HGz42; have hcz42_1 := cellS88_1 HGz42; have hcz42_2 := cellS88_2 HGz42; have hcz42_3 := cellS88_3 HGz42; have hcz42_4 := cellS88_4 HGz42; have hfz42_0 := blk_frozen HGz42 0; have hfz42_1 := blk_frozen HGz42 1; have hfz42_2 := blk_frozen HGz42 2; have hfz42_3 := blk_frozen HGz42 3; have hfz42_4 := blk_frozen HGz42 4; clear HGz42 hgz42) | ((with_reducible refine gate_callee (f := 23) rfl ?_); refine goesL_ (some 59) rfl rfl Tryz.func23 (by kernel_rfl) rfl #[.pointer (some ⟨g, 0, none⟩)] rfl (by (try simp only [List.map_toArray, List.map_cons, List.map_nil]); first | done | rfl | (simp only [List.length_drop, List.length_take]; rfl)) ?_; (with_reducible refine (peer_Peer_From.calls g t136 t137 t138 t139 t140 t141 true t143 t144 t145 t146 t147 w0 _ ?side1 ?side2 A20.out).mono ?_); (case side1 => repeat (first | (with_reducible first | exact HI0.out | apply IsS88.alloc | apply IsS88.drewN | apply IsS88.drew | apply IsS88.set_0 | apply IsS88.set_1 | apply IsS88.set_2 | apply IsS88.set_3 | apply IsS88.set_4) | exact HI0.out)); (case side2 => repeat (first | (with_reducible first | exact HB.out | apply below_alloc | apply pw_below_drewN | apply below_drew1 | refine below_set ?_ (IsS88.ge HI0.out)) | exact HB.out)); rintro e w43 ⟨rfl, hi, hb, hk⟩; refine ⟨_, rfl, ?_⟩; have n0_ := Aside0.mk (KeepBut.trans (by repeat (first | (with_reducible first | exact HK.out | apply KeepBut.set_ | apply keep_drewN | apply keep_drew | apply keep_alloc) | exact HK.out)) hk (.inl rfl)); have n1_ := Aside0.mk (hb); have n2_ := Aside0.mk (hi); clear HK; clear HB; clear HI0; have HK := n0_; have HB := n1_; have HI0 := n2_; clear n0_ n1_ n2_; (try clear hb); (try clear hb2); (try clear hk); (try clear hi); obtain ⟨HGz44, hgz44⟩ := HI0.out; have hcz44_0 := cellS88_0 HGz44; have hcz44_1 := cellS88_1 HGz44; have hcz44_2 := cellS88_2 HGz44; have hcz44_3 := cellS88_3 HGz44; have hcz44_4 := cellS88_4 HGz44; have hfz44_0 := blk_frozen HGz44 0; have hfz44_1 := blk_frozen HGz44 1; have hfz44_2 := blk_frozen HGz44 2; have hfz44_3 := blk_frozen HGz44 3; have hfz44_4 := blk_frozen HGz44 4; clear HGz44 hgz44))
           go_ret2
           exact ⟨by first | rfl | (simp [] <;> rfl) | (simp only [← hji36, ← hji38]; first | rfl | (simp [] <;> rfl)) | (simp [*] <;> rfl), by repeat (first | (with_reducible first | exact HI0.out | apply IsS88.alloc | apply IsS88.drewN | apply IsS88.drew | apply IsS88.set_0 | apply IsS88.set_1 | apply IsS88.set_2 | apply IsS88.set_3 | apply IsS88.set_4) | exact HI0.out), by repeat (first | (with_reducible first | exact HB.out | apply below_alloc | apply pw_below_drewN | apply below_drew1 | refine below_set ?_ (IsS88.ge HI0.out)) | exact HB.out), by repeat (first | (with_reducible first | exact HK.out | apply KeepBut.set_ | apply keep_drewN | apply keep_drew | apply keep_alloc) | exact HK.out)⟩
          ·rw [if_neg c40] at H
           have c40b0 : (t141 == a2) = false := beq_eq_false_iff_ne.mpr c40
           have c40b1 : (t141 != a2) = true := bne_iff_ne.mpr c40
           simp only [Option.some.injEq, Prod.mk.injEq] at H
           obtain ⟨rfl, rfl, rfl, rfl, rfl, rfl, rfl⟩ := H
           go_wp2_with (first | ((with_reducible refine gate_callee (f := 39) rfl ?_); refine goesL_ (some 31) rfl rfl Tryz.func39 (by kernel_rfl) rfl #[.pointer (some ⟨g, 0, none⟩), .int .u64 a1] rfl (by (try simp only [List.map_toArray, List.map_cons, List.map_nil]); first | done | rfl | (simp only [List.length_drop, List.length_take]; rfl)) ?_; (with_reducible refine (peer_Peer_Heard.calls kj4 g true s0_1 s0_2 s0_3 s0_4 a1 false t136 t137 t138 t139 t140 w0 _ ?side1 ?side2 A9.out).mono ?_); (case side1 => repeat (first | (with_reducible first | exact HI0.out | apply IsS88.alloc | apply IsS88.drewN | apply IsS88.drew | apply IsS88.set_0 | apply IsS88.set_1 | apply IsS88.set_2 | apply IsS88.set_3 | apply IsS88.set_4) | exact HI0.out)); (case side2 => repeat (first | (with_reducible first | exact HB.out | apply below_alloc | apply pw_below_drewN | apply below_drew1 | refine below_set ?_ (IsS88.ge HI0.out)) | exact HB.out)); rintro e w45 ⟨rfl, hi, hb, hk⟩; refine ⟨_, rfl, ?_⟩; have n0_ := Aside0.mk (KeepBut.trans (by repeat (first | (with_reducible first | exact HK.out | apply KeepBut.set_ | apply keep_drewN | apply keep_drew | apply keep_alloc) | exact HK.out)) hk (.inl rfl)); have n1_ := Aside0.mk (hb); have n2_ := Aside0.mk (hi); clear HK; clear HB; clear HI0; have HK := n0_; have HB := n1_; have HI0 := n2_; clear n0_ n1_ n2_; (try clear hb); (try clear hb2); (try clear hk); (try clear hi); obtain ⟨HGz46, hgz46⟩ := HI0.out; have hcz46_0 := cellS88_0 HGz46; have hcz46_1 := cellS88_1 HGz46; have hcz46_2 := cellS88_2 HGz46; have hcz46_3 := cellS88_3 HGz46; have hcz46_4 := cellS88_4 HGz46; have hfz46_0 := blk_frozen HGz46 0; have hfz46_1 := blk_frozen HGz46 1; have hfz46_2 := blk_frozen HGz46 2; have hfz46_3 := blk_frozen HGz46 3; have hfz46_4 := blk_frozen HGz46 4; clear HGz46 hgz46) | ((with_reducible refine gate_callee (f := 23) rfl ?_); refine goesL_ (some 59) rfl rfl Tryz.func23 (by kernel_rfl) rfl #[.pointer (some ⟨g, 0, none⟩)] rfl (by (try simp only [List.map_toArray, List.map_cons, List.map_nil]); first | done | rfl | (simp only [List.length_drop, List.length_take]; rfl)) ?_; (with_reducible refine (peer_Peer_From.calls g t136 t137 t138 t139 t140 t141 true t143 t144 t145 t146 t147 w0 _ ?side1 ?side2 A20.out).mono ?_); (case side1 => repeat (first | (with_reducible first | exact HI0.out | apply IsS88.alloc | apply IsS88.drewN | apply IsS88.drew | apply IsS88.set_0 | apply IsS88.set_1 | apply IsS88.set_2 | apply IsS88.set_3 | apply IsS88.set_4) | exact HI0.out)); (case side2 => repeat (first | (with_reducible first | exact HB.out | apply below_alloc | apply pw_below_drewN | apply below_drew1 | refine below_set ?_ (IsS88.ge HI0.out)) | exact HB.out)); rintro e w47 ⟨rfl, hi, hb, hk⟩; refine ⟨_, rfl, ?_⟩; have n0_ := Aside0.mk (KeepBut.trans (by repeat (first | (with_reducible first | exact HK.out | apply KeepBut.set_ | apply keep_drewN | apply keep_drew | apply keep_alloc) | exact HK.out)) hk (.inl rfl)); have n1_ := Aside0.mk (hb); have n2_ := Aside0.mk (hi); clear HK; clear HB; clear HI0; have HK := n0_; have HB := n1_; have HI0 := n2_; clear n0_ n1_ n2_; (try clear hb); (try clear hb2); (try clear hk); (try clear hi); obtain ⟨HGz48, hgz48⟩ := HI0.out; have hcz48_0 := cellS88_0 HGz48; have hcz48_1 := cellS88_1 HGz48; have hcz48_2 := cellS88_2 HGz48; have hcz48_3 := cellS88_3 HGz48; have hcz48_4 := cellS88_4 HGz48; have hfz48_0 := blk_frozen HGz48 0; have hfz48_1 := blk_frozen HGz48 1; have hfz48_2 := blk_frozen HGz48 2; have hfz48_3 := blk_frozen HGz48 3; have hfz48_4 := blk_frozen HGz48 4; clear HGz48 hgz48))
           go_ret2
           exact ⟨by first | rfl | (simp [] <;> rfl) | (simp only [← hji36, ← hji38]; first | rfl | (simp [] <;> rfl)) | (simp [*] <;> rfl), by repeat (first | (with_reducible first | exact HI0.out | apply IsS88.alloc | apply IsS88.drewN | apply IsS88.drew | apply IsS88.set_0 | apply IsS88.set_1 | apply IsS88.set_2 | apply IsS88.set_3 | apply IsS88.set_4) | exact HI0.out), by repeat (first | (with_reducible first | exact HB.out | apply below_alloc | apply pw_below_drewN | apply below_drew1 | refine below_set ?_ (IsS88.ge HI0.out)) | exact HB.out), by repeat (first | (with_reducible first | exact HK.out | apply KeepBut.set_ | apply keep_drewN | apply keep_drew | apply keep_alloc) | exact HK.out)⟩
         ·replace c39 := Bool.eq_false_iff.mpr c39
          subst c39
          have H1 : (some (true, 0, t143, a1, Go.bits .or .u64 (ji38) 1, a2, t147)) = some (r1, r2, r3, r4, r5, r6, r7) := by rw [if_neg (show ¬ (false = true) by decide)] at H; exact H
          clear H
          have H := H1
          clear H1
          simp only [Option.some.injEq, Prod.mk.injEq] at H
          obtain ⟨rfl, rfl, rfl, rfl, rfl, rfl, rfl⟩ := H
          go_wp2_with (first | ((with_reducible refine gate_callee (f := 39) rfl ?_); refine goesL_ (some 31) rfl rfl Tryz.func39 (by kernel_rfl) rfl #[.pointer (some ⟨g, 0, none⟩), .int .u64 a1] rfl (by (try simp only [List.map_toArray, List.map_cons, List.map_nil]); first | done | rfl | (simp only [List.length_drop, List.length_take]; rfl)) ?_; (with_reducible refine (peer_Peer_Heard.calls kj4 g true s0_1 s0_2 s0_3 s0_4 a1 false t136 t137 t138 t139 t140 w0 _ ?side1 ?side2 A9.out).mono ?_); (case side1 => repeat (first | (with_reducible first | exact HI0.out | apply IsS88.alloc | apply IsS88.drewN | apply IsS88.drew | apply IsS88.set_0 | apply IsS88.set_1 | apply IsS88.set_2 | apply IsS88.set_3 | apply IsS88.set_4) | exact HI0.out)); (case side2 => repeat (first | (with_reducible first | exact HB.out | apply below_alloc | apply pw_below_drewN | apply below_drew1 | refine below_set ?_ (IsS88.ge HI0.out)) | exact HB.out)); rintro e w49 ⟨rfl, hi, hb, hk⟩; refine ⟨_, rfl, ?_⟩; have n0_ := Aside0.mk (KeepBut.trans (by repeat (first | (with_reducible first | exact HK.out | apply KeepBut.set_ | apply keep_drewN | apply keep_drew | apply keep_alloc) | exact HK.out)) hk (.inl rfl)); have n1_ := Aside0.mk (hb); have n2_ := Aside0.mk (hi); clear HK; clear HB; clear HI0; have HK := n0_; have HB := n1_; have HI0 := n2_; clear n0_ n1_ n2_; (try clear hb); (try clear hb2); (try clear hk); (try clear hi); obtain ⟨HGz50, hgz50⟩ := HI0.out; have hcz50_0 := cellS88_0 HGz50; have hcz50_1 := cellS88_1 HGz50; have hcz50_2 := cellS88_2 HGz50; have hcz50_3 := cellS88_3 HGz50; have hcz50_4 := cellS88_4 HGz50; have hfz50_0 := blk_frozen HGz50 0; have hfz50_1 := blk_frozen HGz50 1; have hfz50_2 := blk_frozen HGz50 2; have hfz50_3 := blk_frozen HGz50 3; have hfz50_4 := blk_frozen HGz50 4; clear HGz50 hgz50) | ((with_reducible refine gate_callee (f := 23) rfl ?_); refine goesL_ (some 59) rfl rfl Tryz.func23 (by kernel_rfl) rfl #[.pointer (some ⟨g, 0, none⟩)] rfl (by (try simp only [List.map_toArray, List.map_cons, List.map_nil]); first | done | rfl | (simp only [List.length_drop, List.length_take]; rfl)) ?_; (with_reducible refine (peer_Peer_From.calls g t136 t137 t138 t139 t140 t141 false t143 t144 t145 t146 t147 w0 _ ?side1 ?side2 A20.out).mono ?_); (case side1 => repeat (first | (with_reducible first | exact HI0.out | apply IsS88.alloc | apply IsS88.drewN | apply IsS88.drew | apply IsS88.set_0 | apply IsS88.set_1 | apply IsS88.set_2 | apply IsS88.set_3 | apply IsS88.set_4) | exact HI0.out)); (case side2 => repeat (first | (with_reducible first | exact HB.out | apply below_alloc | apply pw_below_drewN | apply below_drew1 | refine below_set ?_ (IsS88.ge HI0.out)) | exact HB.out)); rintro e w51 ⟨rfl, hi, hb, hk⟩; refine ⟨_, rfl, ?_⟩; have n0_ := Aside0.mk (KeepBut.trans (by repeat (first | (with_reducible first | exact HK.out | apply KeepBut.set_ | apply keep_drewN | apply keep_drew | apply keep_alloc) | exact HK.out)) hk (.inl rfl)); have n1_ := Aside0.mk (hb); have n2_ := Aside0.mk (hi); clear HK; clear HB; clear HI0; have HK := n0_; have HB := n1_; have HI0 := n2_; clear n0_ n1_ n2_; (try clear hb); (try clear hb2); (try clear hk); (try clear hi); obtain ⟨HGz52, hgz52⟩ := HI0.out; have hcz52_0 := cellS88_0 HGz52; have hcz52_1 := cellS88_1 HGz52; have hcz52_2 := cellS88_2 HGz52; have hcz52_3 := cellS88_3 HGz52; have hcz52_4 := cellS88_4 HGz52; have hfz52_0 := blk_frozen HGz52 0; have hfz52_1 := blk_frozen HGz52 1; have hfz52_2 := blk_frozen HGz52 2; have hfz52_3 := blk_frozen HGz52 3; have hfz52_4 := blk_frozen HGz52 4; clear HGz52 hgz52))
          go_ret2
          exact ⟨by first | rfl | (simp [] <;> rfl) | (simp only [← hji36, ← hji38]; first | rfl | (simp [] <;> rfl)) | (simp [*] <;> rfl), by repeat (first | (with_reducible first | exact HI0.out | apply IsS88.alloc | apply IsS88.drewN | apply IsS88.drew | apply IsS88.set_0 | apply IsS88.set_1 | apply IsS88.set_2 | apply IsS88.set_3 | apply IsS88.set_4) | exact HI0.out), by repeat (first | (with_reducible first | exact HB.out | apply below_alloc | apply pw_below_drewN | apply below_drew1 | refine below_set ?_ (IsS88.ge HI0.out)) | exact HB.out), by repeat (first | (with_reducible first | exact HK.out | apply KeepBut.set_ | apply keep_drewN | apply keep_drew | apply keep_alloc) | exact HK.out)⟩
        ·rw [if_neg c37] at H
         exact absurd H (by simp)
 ·replace c4 := Bool.eq_false_iff.mpr c4
  subst c4
  have H1 : (some (false, 6, false, s0_1, s0_2, s0_3, s0_4)) = some (r1, r2, r3, r4, r5, r6, r7) := by rw [if_neg (show ¬ (false = true) by decide)] at H; exact H
  clear H
  have H := H1
  clear H1
  simp only [Option.some.injEq, Prod.mk.injEq] at H
  obtain ⟨rfl, rfl, rfl, rfl, rfl, rfl, rfl⟩ := H
  obtain ⟨HGz53, hgz53⟩ := HI0.out
  have hcz53_0 := cellS88_0 HGz53
  have hcz53_1 := cellS88_1 HGz53
  have hcz53_2 := cellS88_2 HGz53
  have hcz53_3 := cellS88_3 HGz53
  have hcz53_4 := cellS88_4 HGz53
  have hfz53_0 := blk_frozen HGz53 0
  have hfz53_1 := blk_frozen HGz53 1
  have hfz53_2 := blk_frozen HGz53 2
  have hfz53_3 := blk_frozen HGz53 3
  have hfz53_4 := blk_frozen HGz53 4
  clear HGz53 hgz53
  go_enter Tryz.func20, Tryz.ntmps20
  go_wp2
  go_ret2
  exact ⟨by first | rfl | (simp [] <;> rfl) | (simp [*] <;> rfl), by repeat (first | (with_reducible first | exact HI0.out | apply IsS88.alloc | apply IsS88.drewN | apply IsS88.drew | apply IsS88.set_0 | apply IsS88.set_1 | apply IsS88.set_2 | apply IsS88.set_3 | apply IsS88.set_4) | exact HI0.out), by repeat (first | (with_reducible first | exact HB.out | apply below_alloc | apply pw_below_drewN | apply below_drew1 | refine below_set ?_ (IsS88.ge HI0.out)) | exact HB.out), by repeat (first | (with_reducible first | exact HK.out | apply KeepBut.set_ | apply keep_drewN | apply keep_drew | apply keep_alloc) | exact HK.out)⟩
def cmp_isNaN_uint64.f (a0 : Int) : Option (Bool) := some (a0 != a0)
set_option maxHeartbeats 8000000 in
set_option maxRecDepth 100000 in
theorem cmp_isNaN_uint64.calls (a0 : Int) (r : Bool) (w : World) (h : cmp_isNaN_uint64.f a0 = some r) :
  Calls Tryz.prog 100 #[.int .u64 a0] w fun e w' => e = .returned (.bool r) ∧ Drawn0 w w' := by
 have H : (some (a0 != a0)) = some r := h
 clear h
 obtain rfl := Option.some.inj H
 go_enter Tryz.func100, Tryz.ntmps100
 go_wp2
 go_ret
 exact ⟨by first | rfl | (simp; done) | (simp [*]; done), by repeat (first | exact Drawn0.refl _ | apply Drawn0.step)⟩
def cmp_Less_uint64.f (a0 : Int) (a1 : Int) : Option (Bool) := (cmp_isNaN_uint64.f a0).bind fun t153 => (if t153 = true then ((cmp_isNaN_uint64.f a1).bind fun t154 => (if t154 = true then (some (decide (a0 < a1))) else (some true))) else (some (decide (a0 < a1))))
set_option maxHeartbeats 8000000 in
set_option maxRecDepth 100000 in
theorem cmp_Less_uint64.calls (a0 : Int) (a1 : Int) (r : Bool) (w : World) (h : cmp_Less_uint64.f a0 a1 = some r) :
  Calls Tryz.prog 86 #[.int .u64 a0, .int .u64 a1] w fun e w' => e = .returned (.bool r) ∧ Drawn0 w w' := by
 have H : ((cmp_isNaN_uint64.f a0).bind fun t153 => (if t153 = true then ((cmp_isNaN_uint64.f a1).bind fun t154 => (if t154 = true then (some (decide (a0 < a1))) else (some true))) else (some (decide (a0 < a1))))) = some r := h
 clear h
 replace H := Option.bind_eq_some_iff.mp H
 obtain ⟨t153, A30, H⟩ := H
 replace H : (if t153 = true then ((cmp_isNaN_uint64.f a1).bind fun t154 => (if t154 = true then (some (decide (a0 < a1))) else (some true))) else (some (decide (a0 < a1)))) = some r := H
 have A3 := Aside0.mk A30
 clear A30
 by_cases c4 : t153 = true
 ·subst c4
  have H1 : ((cmp_isNaN_uint64.f a1).bind fun t154 => (if t154 = true then (some (decide (a0 < a1))) else (some true))) = some r := by rw [if_pos rfl] at H; exact H
  clear H
  have H := H1
  clear H1
  replace H := Option.bind_eq_some_iff.mp H
  obtain ⟨t154, A50, H⟩ := H
  replace H : (if t154 = true then (some (decide (a0 < a1))) else (some true)) = some r := H
  have A5 := Aside0.mk A50
  clear A50
  by_cases c6 : t154 = true
  ·subst c6
   have H1 : (some (decide (a0 < a1))) = some r := by rw [if_pos rfl] at H; exact H
   clear H
   have H := H1
   clear H1
   obtain rfl := Option.some.inj H
   go_enter Tryz.func86, Tryz.ntmps86
   go_wp2_with (first | ((with_reducible refine gate_callee (f := 100) rfl ?_); refine goesL_ (some 6) rfl rfl Tryz.func100 (by kernel_rfl) rfl #[.int .u64 a0] rfl (by (try simp only [List.map_toArray, List.map_cons, List.map_nil]); first | done | rfl | (simp only [List.length_drop, List.length_take]; rfl)) ?_; (with_reducible refine (cmp_isNaN_uint64.calls a0 true _ A3.out).mono ?_); rintro e w' ⟨rfl, ⟨nd, rfl⟩⟩; refine ⟨_, rfl, ?_⟩) | (go_at_call 100; (with_reducible refine (cmp_isNaN_uint64.calls a1 true _ A5.out).mono ?_); rintro e w' ⟨rfl, ⟨nd, rfl⟩⟩))
   go_ret
   exact ⟨by first | rfl | (simp; done) | (simp [*]; done), by repeat (first | exact Drawn0.refl _ | apply Drawn0.step)⟩
  ·replace c6 := Bool.eq_false_iff.mpr c6
   subst c6
   have H1 : (some true) = some r := by rw [if_neg (show ¬ (false = true) by decide)] at H; exact H
   clear H
   have H := H1
   clear H1
   obtain rfl := Option.some.inj H
   go_enter Tryz.func86, Tryz.ntmps86
   go_wp2_with (first | ((with_reducible refine gate_callee (f := 100) rfl ?_); refine goesL_ (some 6) rfl rfl Tryz.func100 (by kernel_rfl) rfl #[.int .u64 a0] rfl (by (try simp only [List.map_toArray, List.map_cons, List.map_nil]); first | done | rfl | (simp only [List.length_drop, List.length_take]; rfl)) ?_; (with_reducible refine (cmp_isNaN_uint64.calls a0 true _ A3.out).mono ?_); rintro e w' ⟨rfl, ⟨nd, rfl⟩⟩; refine ⟨_, rfl, ?_⟩) | (go_at_call 100; (with_reducible refine (cmp_isNaN_uint64.calls a1 false _ A5.out).mono ?_); rintro e w' ⟨rfl, ⟨nd, rfl⟩⟩))
   go_ret
   exact ⟨by first | rfl | (simp; done) | (simp [*]; done), by repeat (first | exact Drawn0.refl _ | apply Drawn0.step)⟩
 ·replace c4 := Bool.eq_false_iff.mpr c4
  subst c4
  have H1 : (some (decide (a0 < a1))) = some r := by rw [if_neg (show ¬ (false = true) by decide)] at H; exact H
  clear H
  have H := H1
  clear H1
  obtain rfl := Option.some.inj H
  go_enter Tryz.func86, Tryz.ntmps86
  go_wp2_with (first | ((with_reducible refine gate_callee (f := 100) rfl ?_); refine goesL_ (some 6) rfl rfl Tryz.func100 (by kernel_rfl) rfl #[.int .u64 a0] rfl (by (try simp only [List.map_toArray, List.map_cons, List.map_nil]); first | done | rfl | (simp only [List.length_drop, List.length_take]; rfl)) ?_; (with_reducible refine (cmp_isNaN_uint64.calls a0 false _ A3.out).mono ?_); rintro e w' ⟨rfl, ⟨nd, rfl⟩⟩; refine ⟨_, rfl, ?_⟩))
  go_ret
  exact ⟨by first | rfl | (simp; done) | (simp [*]; done), by repeat (first | exact Drawn0.refl _ | apply Drawn0.step)⟩
end Go.Proofs.YteadamkkbgnpeaaGreat.QTC
end OfQTCx4
section OfQTCx5
namespace Go.Proofs.YteadamkkbgnpeaaGreat.QTC
open Go.RowKit YteadamkkbgnpeaaGreatW.PrintWords YteadamkkbgnpeaaGreatW.PrintLast YteadamkkbgnpeaaGreatW.PrintMore
attribute [local go_sem] max2_int min2_int max_two min_two max_three min_three max_four min_four   -- for this text's walks alone
set_option linter.unusedVariables false
set_option linter.unusedSimpArgs false
mutual
def slices_insertionSortOrdered_uint64.l0 : Nat → List Int → Int → Int → Int → Option (List Int)
 | 0, _, _, _, _ => none
 | k + 1, x0, x1, x2, x6 => if x6 < x2 then (slices_insertionSortOrdered_uint64.l1 k x0 x1 x2 x6 x6) else (some x0)
def slices_insertionSortOrdered_uint64.l1 : Nat → List Int → Int → Int → Int → Int → Option (List Int)
 | 0, _, _, _, _, _ => none
 | k + 1, x0, x1, x2, x6, x7 => if x7 > x1 then (if 0 ≤ x7 then (if x7 < (x0.length : Int) then (if 0 ≤ (wrap64 (x7 - 1)) then (if (wrap64 (x7 - 1)) < (x0.length : Int) then ((cmp_Less_uint64.f (rd x0 x7) (rd x0 (wrap64 (x7 - 1)))).bind fun t157 => (if t157 = true then (slices_insertionSortOrdered_uint64.l1 k ((x0.set (x7 : Int).toNat (rd x0 (wrap64 (x7 - 1)))).set ((wrap64 (x7 - 1)) : Int).toNat (rd x0 x7)) x1 x2 x6 (wrap64 (x7 - 1))) else (slices_insertionSortOrdered_uint64.l0 k x0 x1 x2 (wrap64 (x6 + 1))))) else (none)) else (none)) else (none)) else (none)) else (slices_insertionSortOrdered_uint64.l0 k x0 x1 x2 (wrap64 (x6 + 1)))
end
def slices_insertionSortOrdered_uint64.f (k : Nat) (l0 : List Int) (a1 : Int) (a2 : Int) : Option (List Int) := slices_insertionSortOrdered_uint64.l0 k l0 a1 a2 (wrap64 (a1 + 1))
def slices_insertionSortOrdered_uint64.T4 : Bool × List (List Nat × List Nat) := (true, [([], []), ([], []), ([0, 1], [0, 1]), ([2], [2]), ([3], [3]), ([3], [3]), ([4, 5, 3], [3, 4, 5]), ([6, 3], [3, 6]), ([3], [3]), ([3], [3]), ([9, 3], [3, 9]), ([8, 10, 3], [3, 8, 10]), ([11, 3], [3, 11]), ([7, 12, 3, 3], [3, 7, 12]), ([3, 13], [3, 13])])
def slices_insertionSortOrdered_uint64.B4 : List Nat := [0, 0, 3, 7, 15, 15, 63, 127, 15, 15, 527, 1807, 3855, 8191, 16383]
theorem slices_insertionSortOrdered_uint64.tab4 : rtab .any (opsOf Tryz.f80 4) = slices_insertionSortOrdered_uint64.T4 := by kernel_rfl
theorem slices_insertionSortOrdered_uint64.bits4 : waitsOk slices_insertionSortOrdered_uint64.T4.2 slices_insertionSortOrdered_uint64.B4 = true := by kernel_rfl
def slices_insertionSortOrdered_uint64.T6 : Bool × List (List Nat × List Nat) := (true, [([], []), ([], []), ([], []), ([], []), ([3], [3]), ([], []), ([], []), ([6], [6]), ([5, 7], [5, 7]), ([8], [8]), ([], []), ([], []), ([10, 11], [10, 11]), ([12], [12]), ([0, 1, 0, 1, 5, 6, 7, 8, 9, 13], [0, 1]), ([14, 9, 0, 1, 5, 6, 7, 8, 9, 13], [9, 14]), ([2, 4, 0, 1, 2, 3, 4, 5, 6, 7, 8, 9, 10, 11, 12, 13, 14, 15], [2, 4]), ([16, 13, 15, 0, 1, 2, 3, 4, 5, 6, 7, 8, 9, 10, 11, 12, 13, 14, 15], [13, 16])])
def slices_insertionSortOrdered_uint64.B6 : List Nat := [0, 0, 0, 0, 8, 0, 0, 64, 224, 480, 0, 0, 3072, 7168, 16355, 32739, 65535, 131071]
theorem slices_insertionSortOrdered_uint64.tab6 : rtab .any (opsOf Tryz.f80 6) = slices_insertionSortOrdered_uint64.T6 := by kernel_rfl
theorem slices_insertionSortOrdered_uint64.bits6 : waitsOk slices_insertionSortOrdered_uint64.T6.2 slices_insertionSortOrdered_uint64.B6 = true := by kernel_rfl
set_option maxHeartbeats 8000000 in
set_option maxRecDepth 100000 in
theorem slices_insertionSortOrdered_uint64.calls (k : Nat) (P0_ : Nat → Prop) (u9000_ : Value) (l0 : List Int) (a1 : Int) (a2 : Int) (r : List Int) (w0 w : World) (hB : Below w0.heap.size w0 w) (ho0 : Kd.R (Kd.int .u64) 57 w w0.heap.size P0_ u9000_ l0) (h : slices_insertionSortOrdered_uint64.f k l0 a1 a2 = some r) :
  Calls Tryz.prog 80 #[u9000_, .int .i64 a1, .int .i64 a2] w fun e w' => e = .returned (.tuple #[]) ∧ Kd.R (Kd.int .u64) 57 w' w0.heap.size (fun k_ => (P0_ k_ ∨ w.heap.size ≤ k_)) u9000_ r ∧ Below w0.heap.size w0 w' ∧ Kept w w' (fun k_ => P0_ k_) := by
 have HO0 := Aside0.mk (show Kd.R (Kd.int .u64) 57 w w0.heap.size (fun k_ => (P0_ k_ ∨ w.heap.size ≤ k_)) u9000_ l0 from Kd.R_mono ho0 (fun k_ hk => (.inl hk)))
 have HK := Aside0.mk (Kept.refl w (fun k_ => P0_ k_))
 have HW0 := Aside0.mk hB.size
 have HB := Aside0.mk hB
 clear hB
 have H : (slices_insertionSortOrdered_uint64.l0 k l0 a1 a2 (wrap64 (a1 + 1))) = some r := h
 clear h
 have H' := Aside0.mk H
 clear H
 go_enter Tryz.func80, Tryz.ntmps80
 go_wp2
 go_loopg [6] k (fun kq v6 w' => ∃ (x0_1 : List Int) (x6_1 : Int), v6 = .int .i64 x6_1 ∧ Aside0 (slices_insertionSortOrdered_uint64.l0 kq x0_1 a1 a2 x6_1 = some r) ∧ Aside0 (kq ≤ k) ∧ Aside0 (Kd.R (Kd.int .u64) 57 w' w0.heap.size (fun k_ => (P0_ k_ ∨ w.heap.size ≤ k_)) u9000_ x0_1) ∧ Aside0 (Kept w w' (fun k_ => P0_ k_)) ∧ Aside0 (Below w0.heap.size w0 w'))
 case atStart => exact ⟨(l0), (wrap64 (a1 + 1)), (by first | rfl | (simp; done) | (simp [*]; done)), H', ⟨Nat.le_refl _⟩, ⟨by (with_reducible repeat (first | apply Kd.R_alloc | apply Kd.R_drewN | apply Kd.R_drew)); exact HO0.out⟩, ⟨by repeat (first | (with_reducible first | exact HK.out | apply Kept.alloc | apply Kept.drewN | apply Kept.drew) | exact HK.out)⟩, ⟨by repeat (first | (with_reducible first | exact HB.out | apply below_alloc | apply pw_below_drewN | apply below_drew1) | exact HB.out)⟩⟩
 case round =>
  clear H'
  try clear p2
  obtain ⟨x0_1, x6_1, rfl, HA, HK1, HO_0, HK, HB⟩ := hrel
  cases gk with
  | zero => exact absurd HA.out (by simp [slices_insertionSortOrdered_uint64.l0])
  | succ k1 =>
   have H := HA.out
   clear HA
   simp only [slices_insertionSortOrdered_uint64.l0] at H
   by_cases c4 : x6_1 < a2
   ·rw [if_pos c4] at H
    have c4b0 : decide (x6_1 < a2) = true := decide_eq_true c4
    clear c4
    have H' := Aside0.mk H
    clear H
    go_wp2
    go_loopg [7] k1 (fun kq v7 w' => ∃ (x0_2 : List Int) (x7_2 : Int), v7 = .int .i64 x7_2 ∧ Aside0 (slices_insertionSortOrdered_uint64.l1 kq x0_2 a1 a2 x6_1 x7_2 = some r) ∧ Aside0 (kq ≤ k1) ∧ Aside0 (Kd.R (Kd.int .u64) 57 w' w0.heap.size (fun k_ => (P0_ k_ ∨ w.heap.size ≤ k_)) u9000_ x0_2) ∧ Aside0 (Kept w w' (fun k_ => P0_ k_)) ∧ Aside0 (Below w0.heap.size w0 w'))
    case atStart => exact ⟨(x0_1), (x6_1), (by first | rfl | (simp; done) | (simp [*]; done)), H', ⟨Nat.le_refl _⟩, ⟨by (with_reducible repeat (first | apply Kd.R_alloc | apply Kd.R_drewN | apply Kd.R_drew)); exact HO_0.out⟩, ⟨by repeat (first | (with_reducible first | exact HK.out | apply Kept.alloc | apply Kept.drewN | apply Kept.drew) | exact HK.out)⟩, ⟨by repeat (first | (with_reducible first | exact HB.out | apply below_alloc | apply pw_below_drewN | apply below_drew1) | exact HB.out)⟩⟩
    case round =>
     clear H'
     try clear p2
     try clear c4
     try clear c4b0
     try clear p2
     obtain ⟨x0_2, x7_2, rfl, HA, HK2, HO_0, HK, HB⟩ := hrel
     cases gk with
     | zero => exact absurd HA.out (by simp [slices_insertionSortOrdered_uint64.l1])
     | succ k2 =>
      have H := HA.out
      clear HA
      simp only [slices_insertionSortOrdered_uint64.l1] at H
      by_cases c5 : x7_2 > a1
      ·rw [if_pos c5] at H
       have c5b0 : decide (a1 < x7_2) = true := decide_eq_true c5
       clear c5
       by_cases c6 : 0 ≤ x7_2
       ·rw [if_pos c6] at H
        have c6b0 : decide (0 ≤ x7_2) = true := decide_eq_true c6
        clear c6
        by_cases c7 : x7_2 < (x0_2.length : Int)
        ·rw [if_pos c7] at H
         have c7b0 : decide (x7_2 < (x0_2.length : Int)) = true := decide_eq_true c7
         clear c7
         obtain ⟨ji8, hji8⟩ : ∃ j_ : Int, (wrap64 (x7_2 - 1)) = j_ := ⟨_, rfl⟩
         replace H : (if 0 ≤ (ji8) then (if (ji8) < (x0_2.length : Int) then ((cmp_Less_uint64.f (rd x0_2 x7_2) (rd x0_2 (ji8))).bind fun t157 => (if t157 = true then (slices_insertionSortOrdered_uint64.l1 k2 ((x0_2.set (x7_2 : Int).toNat (rd x0_2 (ji8))).set ((ji8) : Int).toNat (rd x0_2 x7_2)) a1 a2 x6_1 ji8) else (slices_insertionSortOrdered_uint64.l0 k2 x0_2 a1 a2 (wrap64 (x6_1 + 1))))) else (none)) else (none)) = some r := by first | (rw [hji8] at H; exact H) | (simp only [hji8] at H ⊢; exact H)
         have hji8w : (IntKind.i64.wrap (x7_2 - 1)) = ji8 := (i64_w _).trans hji8
         by_cases c9 : 0 ≤ (ji8)
         ·rw [if_pos c9] at H
          have c9b0 : decide (0 ≤ (ji8)) = true := decide_eq_true c9
          clear c9
          by_cases c10 : (ji8) < (x0_2.length : Int)
          ·rw [if_pos c10] at H
           have c10b0 : decide ((ji8) < (x0_2.length : Int)) = true := decide_eq_true c10
           clear c10
           replace H := Option.bind_eq_some_iff.mp H
           obtain ⟨t157, A110, H⟩ := H
           replace H : (if t157 = true then (slices_insertionSortOrdered_uint64.l1 k2 ((x0_2.set (x7_2 : Int).toNat (rd x0_2 (ji8))).set ((ji8) : Int).toNat (rd x0_2 x7_2)) a1 a2 x6_1 ji8) else (slices_insertionSortOrdered_uint64.l0 k2 x0_2 a1 a2 (wrap64 (x6_1 + 1)))) = some r := H
           have A11 := Aside0.mk A110
           clear A110
           by_cases c12 : t157 = true
           ·subst c12
            have H1 : (slices_insertionSortOrdered_uint64.l1 k2 ((x0_2.set (x7_2 : Int).toNat (rd x0_2 (ji8))).set ((ji8) : Int).toNat (rd x0_2 x7_2)) a1 a2 x6_1 ji8) = some r := by rw [if_pos rfl] at H; exact H
            clear H
            have H := H1
            clear H1
            obtain ⟨y160, hy160⟩ : ∃ y_ : List Int, y_ = (x0_2.set (x7_2 : Int).toNat (rd x0_2 (ji8))) := ⟨_, rfl⟩
            replace H : (slices_insertionSortOrdered_uint64.l1 k2 (y160.set ((ji8) : Int).toNat (rd x0_2 x7_2)) a1 a2 x6_1 ji8) = some r := by first | (rw [hy160]; with_reducible exact H) | (have H2_ := (Option.bind_some _ _).symm.trans H; rw [hy160]; with_reducible exact H2_) | (have H2_ := (Option.bind_some _ _).symm.trans H; with_reducible exact H2_) | with_reducible exact H | (rw [hy160]; exact H) | exact H
            have Ny160 := Aside0.mk hy160
            clear hy160
            obtain ⟨y161, hy161⟩ : ∃ y_ : List Int, y_ = (y160.set ((ji8) : Int).toNat (rd x0_2 x7_2)) := ⟨_, rfl⟩
            replace H : (slices_insertionSortOrdered_uint64.l1 k2 y161 a1 a2 x6_1 ji8) = some r := by first | (rw [hy161]; with_reducible exact H) | (have H2_ := (Option.bind_some _ _).symm.trans H; rw [hy161]; with_reducible exact H2_) | (have H2_ := (Option.bind_some _ _).symm.trans H; with_reducible exact H2_) | with_reducible exact H | (rw [hy161]; exact H) | exact H
            have Ny161 := Aside0.mk hy161
            clear hy161
            have H' := Aside0.mk H
            clear H
            try go_wp2
            have n0_ := Aside0.mk (Kd.R_drew HO_0.out)
            have n1_ := Aside0.mk (Kept.drew HK.out)
            have n2_ := Aside0.mk (below_drew1 HB.out)
            clear HO_0
            clear HK
            clear HB
            have HO_0 := n0_
            have HK := n1_
            have HB := n2_
            clear n0_ n1_ n2_
            obtain ⟨Ao16, co16, eo16⟩ := Kd.R_slice HO_0.out
            (first | subst eo16 | (injection eo16 with f1_ f2_ f3_; have f4_ := f1_.symm; have f5_ := f3_.symm; clear f1_ f2_ f3_; subst f4_; subst f5_))
            have p155 : 0 ≤ (x7_2 : Int) := of_decide_eq_true (by first | (with_reducible assumption) | assumption)
            have q155 : x7_2 < (x0_2.length : Int) := of_decide_eq_true (by first | (with_reducible assumption) | assumption)
            obtain ⟨ad155, e155, hx155_0⟩ := Kd.at_int (Kd.R_reads' HO_0.out).2.2 x7_2 p155 q155
            cases e155
            replace p155 := eq_true p155
            replace q155 := eq_true q155
            have p156 : 0 ≤ ((ji8) : Int) := of_decide_eq_true (by first | (with_reducible assumption) | assumption)
            have q156 : (ji8) < (x0_2.length : Int) := of_decide_eq_true (by first | (with_reducible assumption) | assumption)
            obtain ⟨ad156, e156, hx156_0⟩ := Kd.at_int (Kd.R_reads' HO_0.out).2.2 (ji8) p156 q156
            obtain rfl : ad155 = ad156 := (by injection e156)
            replace p156 := eq_true p156
            replace q156 := eq_true q156
            refine start_ (n := 15) (S := fun w' => w'.cell? (ad155.add (x7_2).toNat) = some (.int .u64 (rd x0_2 x7_2)) ∧ w'.cell? (ad155.add ((ji8)).toNat) = some (.int .u64 (rd x0_2 (ji8)))) (ds := []) #[false, false, false, false, false, false, false, false, false, false, false, false, false, false, false] (by kernel_rfl) rfl rfl ⟨hx155_0, hx156_0⟩ (fun hHeld => ?_); refine with_tabW slices_insertionSortOrdered_uint64.tab4 slices_insertionSortOrdered_uint64.bits4 (fun HT_ HW_ => ?_)
            generalize wr.drew = w15 at HO_0 HK HB hx155_0 hx156_0 hHeld ⊢
            refine pure_ (i := 0) (N := some 16) (v := ?_) (a' := ?_) #[true, false, false, false, false, false, false, false, false, false, false, false, false, false, false] rfl rfl (any_of HT_.out (by kernel_rfl)) (fun _ _ _ h => h) (Or.inl ⟨by rfl, ?_⟩) ?_ ?_
            rotate_left
            ·intro w'
             go_simp
             with_reducible rfl
            rotate_left
            ·simp only [Act.put, List.setIfInBounds_toArray, List.set_cons_zero, List.set_cons_succ, i64_w, i32_w]
             rfl
            refine pure_ (i := 1) (N := some 17) (v := ?_) (a' := ?_) #[true, true, false, false, false, false, false, false, false, false, false, false, false, false, false] rfl rfl (any_of HT_.out (by kernel_rfl)) (fun _ _ _ h => h) (Or.inl ⟨by rfl, ?_⟩) ?_ ?_
            rotate_left
            ·intro w'
             go_simp
             with_reducible rfl
            rotate_left
            ·simp only [Act.put, List.setIfInBounds_toArray, List.set_cons_zero, List.set_cons_succ, i64_w, i32_w]
             rfl
            refine pure_ (i := 2) (N := some 18) (v := ?_) (a' := ?_) #[true, true, true, false, false, false, false, false, false, false, false, false, false, false, false] rfl rfl (any_of HT_.out (by kernel_rfl)) (fun _ _ _ h => h) (Or.inl ⟨by rfl, ?_⟩) ?_ ?_
            rotate_left
            ·intro w'
             go_simp
             with_reducible rfl
            rotate_left
            ·simp only [Act.put, List.setIfInBounds_toArray, List.set_cons_zero, List.set_cons_succ, i64_w, i32_w]
             rfl
            refine pure_ (i := 3) (N := some 19) (v := ?_) (a' := ?_) #[true, true, true, true, false, false, false, false, false, false, false, false, false, false, false] rfl rfl (any_of HT_.out (by kernel_rfl)) (fun _ _ _ h => h) (Or.inl ⟨by rfl, ?_⟩) ?_ ?_
            rotate_left
            ·intro w'
             go_simp
             with_reducible rfl
            rotate_left
            ·simp only [Act.put, List.setIfInBounds_toArray, List.set_cons_zero, List.set_cons_succ, i64_w, i32_w]
             rfl
            refine pure_ (i := 4) (N := some 20) (v := ?_) (a' := ?_) #[true, true, true, true, true, false, false, false, false, false, false, false, false, false, false] rfl rfl (any_of HT_.out (by kernel_rfl)) (fun _ _ _ h => h) (Or.inl ⟨by rfl, ?_⟩) ?_ ?_
            rotate_left
            ·intro w'
             go_simp
             with_reducible rfl
            rotate_left
            ·simp only [Act.put, List.setIfInBounds_toArray, List.set_cons_zero, List.set_cons_succ, i64_w, i32_w]
             rfl
            refine pure_ (i := 5) (N := some 21) (v := ?_) (a' := ?_) #[true, true, true, true, true, true, false, false, false, false, false, false, false, false, false] rfl rfl (any_of HT_.out (by kernel_rfl)) (fun _ _ _ h => h) (Or.inl ⟨by rfl, ?_⟩) ?_ ?_
            rotate_left
            ·intro w'
             go_simp
             with_reducible rfl
            rotate_left
            ·simp only [Act.put, List.setIfInBounds_toArray, List.set_cons_zero, List.set_cons_succ, i64_w, i32_w]
             rfl
            refine pure_ (i := 6) (N := some 22) (v := ?_) (a' := ?_) #[true, true, true, true, true, true, true, false, false, false, false, false, false, false, false] rfl rfl (any_of HT_.out (by kernel_rfl)) (fun _ _ _ h => h) (Or.inl ⟨by rfl, ?_⟩) ?_ ?_
            rotate_left
            ·intro w'
             go_simp
             with_reducible rfl
            rotate_left
            ·simp only [Act.put, List.setIfInBounds_toArray, List.set_cons_zero, List.set_cons_succ, i64_w, i32_w]
             rfl
            refine pure_ (i := 8) (N := some 24) (v := ?_) (a' := ?_) #[true, true, true, true, true, true, true, false, true, false, false, false, false, false, false] rfl rfl (any_of HT_.out (by kernel_rfl)) (fun _ _ _ h => h) (Or.inl ⟨by rfl, ?_⟩) ?_ ?_
            rotate_left
            ·intro w'
             go_simp
             with_reducible rfl
            rotate_left
            ·simp only [Act.put, List.setIfInBounds_toArray, List.set_cons_zero, List.set_cons_succ, i64_w, i32_w]
             rfl
            refine pure_ (i := 9) (N := some 25) (v := ?_) (a' := ?_) #[true, true, true, true, true, true, true, false, true, true, false, false, false, false, false] rfl rfl (any_of HT_.out (by kernel_rfl)) (fun _ _ _ h => h) (Or.inl ⟨by rfl, ?_⟩) ?_ ?_
            rotate_left
            ·intro w'
             go_simp
             with_reducible rfl
            rotate_left
            ·simp only [Act.put, List.setIfInBounds_toArray, List.set_cons_zero, List.set_cons_succ, i64_w, i32_w]
             rfl
            refine pure_ (i := 10) (N := some 26) (v := ?_) (a' := ?_) #[true, true, true, true, true, true, true, false, true, true, true, false, false, false, false] rfl rfl (any_of HT_.out (by kernel_rfl)) (fun _ _ _ h => h) (Or.inl ⟨by rfl, ?_⟩) ?_ ?_
            rotate_left
            ·intro w'
             go_simp
             with_reducible rfl
            rotate_left
            ·simp only [Act.put, List.setIfInBounds_toArray, List.set_cons_zero, List.set_cons_succ, i64_w, i32_w]
             rfl
            refine pure_ (i := 11) (N := some 27) (v := ?_) (a' := ?_) #[true, true, true, true, true, true, true, false, true, true, true, true, false, false, false] rfl rfl (any_of HT_.out (by kernel_rfl)) (fun _ _ _ h => h) (Or.inl ⟨by rfl, ?_⟩) ?_ ?_
            rotate_left
            ·intro w'
             go_simp
             with_reducible rfl
            rotate_left
            ·simp only [Act.put, List.setIfInBounds_toArray, List.set_cons_zero, List.set_cons_succ, i64_w, i32_w]
             rfl
            refine take_ (i := 7) (N := some 23) (v := ?_) (a' := ?_) #[true, true, true, true, true, true, true, true, true, true, true, true, false, false, false] rfl rfl (take_ofW HT_.out HW_.out (by kernel_rfl)) (fun _ _ _ h => h) (Or.inl ⟨by rfl, ?_⟩) hHeld ?_ ?_
            rotate_left
            ·rintro w' ⟨s0, s1⟩
             go_simp
             with_reducible rfl
            rotate_left
            ·simp only [Act.put, List.setIfInBounds_toArray, List.set_cons_zero, List.set_cons_succ, i64_w, i32_w]
             rfl
            refine take_ (i := 12) (N := some 28) (v := ?_) (a' := ?_) #[true, true, true, true, true, true, true, true, true, true, true, true, true, false, false] rfl rfl (take_ofW HT_.out HW_.out (by kernel_rfl)) (fun _ _ _ h => h) (Or.inl ⟨by rfl, ?_⟩) hHeld ?_ ?_
            rotate_left
            ·rintro w' ⟨s0, s1⟩
             go_simp
             with_reducible rfl
            rotate_left
            ·simp only [Act.put, List.setIfInBounds_toArray, List.set_cons_zero, List.set_cons_succ, i64_w, i32_w]
             rfl
            refine one_ (i := 13) (N := some 29) #[true, true, true, true, true, true, true, true, true, true, true, true, true, true, false] rfl rfl (one_of HT_.out (by kernel_rfl)) (by decide) (fun K hK => ?_)
            refine goes_ Tryz.func86 (by kernel_rfl) rfl #[.int .u64 (rd x0_2 x7_2), .int .u64 (rd x0_2 (ji8))] (by rfl) rfl rfl (by (try simp only [List.map_toArray, List.map_cons, List.map_nil]); first | done | (simp only [hji8]; rfl) | rfl | (simp only [List.length_drop, List.length_take]; rfl)) ?_
            with_reducible refine (cmp_Less_uint64.calls (rd x0_2 x7_2) (rd x0_2 (ji8)) true _ A11.out).mono ?_
            rintro e w' ⟨rfl, ⟨nd, rfl⟩⟩
            refine ⟨_, rfl, ?_⟩
            refine hK.out _ _ ⟨hHeld.1, hHeld.2⟩ (fun hHeld => ?_)
            clear hK K
            refine norm_ (a' := ?_) ?_ ?_
            rotate_left
            ·show Act.put _ (some 29) _ = _
             simp only [Act.put, List.setIfInBounds_toArray, List.set_cons_zero, List.set_cons_succ, i64_w, i32_w]
             rfl
            refine pure_ (i := 14) (N := some 30) (v := ?_) (a' := ?_) #[true, true, true, true, true, true, true, true, true, true, true, true, true, true, true] rfl rfl (any_of HT_.out (by kernel_rfl)) (fun _ _ _ h => h) (Or.inl ⟨by rfl, ?_⟩) ?_ ?_
            rotate_left
            ·intro w'
             go_simp
             with_reducible rfl
            rotate_left
            ·simp only [Act.put, List.setIfInBounds_toArray, List.set_cons_zero, List.set_cons_succ, i64_w, i32_w]
             rfl
            refine done_ (done_of HT_.out (by kernel_rfl)) ?_
            try go_wp2
            (try (rw [drewN_self w15]; generalize hq_ : World.drewN w15 _ = w15; have n0_ : Aside0 (Kd.R (Kd.int .u64) 57 w15 w0.heap.size (fun k_ => (P0_ k_ ∨ w.heap.size ≤ k_)) (.slice (some ad155) x0_2.length co16) x0_2) := ⟨by rw [← hq_]; exact (by (with_reducible repeat (first | apply Kd.R_alloc | apply Kd.R_drewN | apply Kd.R_drew)); exact HO_0.out)⟩; have n1_ : Aside0 (Kept w w15 (fun k_ => P0_ k_)) := ⟨by rw [← hq_]; exact (by repeat (first | (with_reducible first | exact HK.out | apply Kept.alloc | apply Kept.drewN | apply Kept.drew) | exact HK.out))⟩; have n2_ : Aside0 (Below w0.heap.size w0 w15) := ⟨by rw [← hq_]; exact (by repeat (first | (with_reducible first | exact HB.out | apply below_alloc | apply pw_below_drewN | apply below_drew1) | exact HB.out))⟩; clear HO_0 HK HB hq_; have HO_0 := n0_; have HK := n1_; have HB := n2_; clear n0_ n1_ n2_))
            have n0_ := Aside0.mk (Kd.R_drew HO_0.out)
            have n1_ := Aside0.mk (Kept.drew HK.out)
            have n2_ := Aside0.mk (below_drew1 HB.out)
            clear HO_0
            clear HK
            clear HB
            have HO_0 := n0_
            have HK := n1_
            have HB := n2_
            clear n0_ n1_ n2_
            have p158 : 0 ≤ ((ji8) : Int) := of_decide_eq_true (by first | (with_reducible assumption) | assumption)
            have q158 : (ji8) < (x0_2.length : Int) := of_decide_eq_true (by first | (with_reducible assumption) | assumption)
            obtain ⟨ad158, e158, hx158_0⟩ := Kd.at_int (Kd.R_reads' HO_0.out).2.2 (ji8) p158 q158
            obtain rfl : ad155 = ad158 := (by injection e158)
            replace p158 := eq_true p158
            replace q158 := eq_true q158
            have p159 : 0 ≤ (x7_2 : Int) := of_decide_eq_true (by first | (with_reducible assumption) | assumption)
            have q159 : x7_2 < (x0_2.length : Int) := of_decide_eq_true (by first | (with_reducible assumption) | assumption)
            obtain ⟨ad159, e159, hx159_0⟩ := Kd.at_int (Kd.R_reads' HO_0.out).2.2 x7_2 p159 q159
            obtain rfl : ad155 = ad159 := (by injection e159)
            replace p159 := eq_true p159
            replace q159 := eq_true q159
            have p13 : 0 ≤ (x7_2 : Int) := of_decide_eq_true (by first | (with_reducible assumption) | assumption)
            have q13 : (x7_2 : Int) < ((x0_2.length : Int) : Int) := of_decide_eq_true (by first | (with_reducible assumption) | assumption)
            obtain ⟨go13, co13, eo13, gb13, gl13, cl13, HG13⟩ := Kd.R_form HO_0.out (by omega)
            (first | cases eo13 | (injection eo13 with ea_ en_ ec_; (first | subst ea_ | (injection ea_ with ea_; subst ea_)); subst ec_; clear en_))
            have GB13 := Aside0.mk gb13
            have GG13 := Aside0.mk HG13
            clear gb13 gl13 HG13
            have HMgo13 := Aside0.mk (show (P0_ go13 ∨ w.heap.size ≤ go13) from (HO_0.out.1 _ rfl))
            (first | simp only [add_plain] at hx155_0 | skip)
            (first | simp only [add_plain] at hx156_0 | skip)
            (first | simp only [add_plain] at hx158_0 | skip)
            (first | simp only [add_plain] at hx159_0 | skip)
            obtain ⟨hx13_0, hf13_0⟩ := Kd.R_celln 0 HO_0.out (x7_2 : Int) p13 q13
            replace p13 := eq_true p13
            replace q13 := eq_true q13
            have HP18 := Kd.R_putn HO_0.out (x7_2 : Int) (rd x0_2 (ji8))
            rw [← Ny160.out] at HP18
            have HQ18 := Aside0.mk HP18
            clear HP18
            have p14 : 0 ≤ ((ji8) : Int) := of_decide_eq_true (by first | (with_reducible assumption) | assumption)
            have q14 : ((ji8) : Int) < ((x0_2.length : Int) : Int) := of_decide_eq_true (by first | (with_reducible assumption) | assumption)
            obtain ⟨hx14_0, hf14_0⟩ := Kd.R_celln 0 HQ18.out ((ji8) : Int) p14 q14
            replace p14 := eq_true p14
            replace q14 := eq_true q14
            have HP19 := Kd.R_putn HQ18.out ((ji8) : Int) (rd x0_2 x7_2)
            rw [← Ny161.out] at HP19
            have HQ19 := Aside0.mk HP19
            clear HP19
            refine start_ (n := 18) (S := fun w' => w'.cell? ⟨go13, ((ji8)).toNat, none⟩ = some (.int .u64 (rd x0_2 (ji8))) ∧ w'.cell? ⟨go13, (x7_2).toNat, none⟩ = some (.int .u64 (rd x0_2 x7_2))) (ds := [15, 17]) #[false, false, false, false, false, false, false, false, false, false, false, false, false, false, false, false, false, false] (by kernel_rfl) rfl rfl ⟨hx158_0, hx159_0⟩ (fun hHeld => ?_); refine with_tabW slices_insertionSortOrdered_uint64.tab6 slices_insertionSortOrdered_uint64.bits6 (fun HT_ HW_ => ?_)
            generalize w15.drew = w17 at HO_0 HK HB GG13 HQ18 HQ19 hf13_0 hf14_0 hx13_0 hx14_0 hx155_0 hx156_0 hx158_0 hx159_0 hHeld ⊢
            refine pure_ (i := 0) (N := some 33) (v := ?_) (a' := ?_) #[true, false, false, false, false, false, false, false, false, false, false, false, false, false, false, false, false, false] rfl rfl (any_of HT_.out (by kernel_rfl)) (fun _ _ _ h => h) (Or.inl ⟨by rfl, ?_⟩) ?_ ?_
            rotate_left
            ·intro w'
             go_simp
             with_reducible rfl
            rotate_left
            ·simp only [Act.put, List.setIfInBounds_toArray, List.set_cons_zero, List.set_cons_succ, i64_w, i32_w]
             rfl
            refine pure_ (i := 1) (N := some 34) (v := ?_) (a' := ?_) #[true, true, false, false, false, false, false, false, false, false, false, false, false, false, false, false, false, false] rfl rfl (any_of HT_.out (by kernel_rfl)) (fun _ _ _ h => h) (Or.inl ⟨by rfl, ?_⟩) ?_ ?_
            rotate_left
            ·intro w'
             go_simp
             with_reducible rfl
            rotate_left
            ·simp only [Act.put, List.setIfInBounds_toArray, List.set_cons_zero, List.set_cons_succ, i64_w, i32_w]
             rfl
            refine pure_ (i := 2) (N := some 35) (v := ?_) (a' := ?_) #[true, true, true, false, false, false, false, false, false, false, false, false, false, false, false, false, false, false] rfl rfl (any_of HT_.out (by kernel_rfl)) (fun _ _ _ h => h) (Or.inl ⟨by rfl, ?_⟩) ?_ ?_
            rotate_left
            ·intro w'
             go_simp
             with_reducible rfl
            rotate_left
            ·simp only [Act.put, List.setIfInBounds_toArray, List.set_cons_zero, List.set_cons_succ, i64_w, i32_w]
             rfl
            refine pure_ (i := 3) (N := some 36) (v := ?_) (a' := ?_) #[true, true, true, true, false, false, false, false, false, false, false, false, false, false, false, false, false, false] rfl rfl (any_of HT_.out (by kernel_rfl)) (fun _ _ _ h => h) (Or.inl ⟨by rfl, ?_⟩) ?_ ?_
            rotate_left
            ·intro w'
             go_simp
             with_reducible rfl
            rotate_left
            ·simp only [Act.put, List.setIfInBounds_toArray, List.set_cons_zero, List.set_cons_succ, i64_w, i32_w]
             rfl
            refine pure_ (i := 4) (N := some 37) (v := ?_) (a' := ?_) #[true, true, true, true, true, false, false, false, false, false, false, false, false, false, false, false, false, false] rfl rfl (any_of HT_.out (by kernel_rfl)) (fun _ _ _ h => h) (Or.inl ⟨by rfl, ?_⟩) ?_ ?_
            rotate_left
            ·intro w'
             go_simp
             with_reducible rfl
            rotate_left
            ·simp only [Act.put, List.setIfInBounds_toArray, List.set_cons_zero, List.set_cons_succ, i64_w, i32_w]
             rfl
            refine pure_ (i := 5) (N := some 38) (v := ?_) (a' := ?_) #[true, true, true, true, true, true, false, false, false, false, false, false, false, false, false, false, false, false] rfl rfl (any_of HT_.out (by kernel_rfl)) (fun _ _ _ h => h) (Or.inl ⟨by rfl, ?_⟩) ?_ ?_
            rotate_left
            ·intro w'
             go_simp
             with_reducible rfl
            rotate_left
            ·simp only [Act.put, List.setIfInBounds_toArray, List.set_cons_zero, List.set_cons_succ, i64_w, i32_w]
             rfl
            refine pure_ (i := 6) (N := some 39) (v := ?_) (a' := ?_) #[true, true, true, true, true, true, true, false, false, false, false, false, false, false, false, false, false, false] rfl rfl (any_of HT_.out (by kernel_rfl)) (fun _ _ _ h => h) (Or.inl ⟨by rfl, ?_⟩) ?_ ?_
            rotate_left
            ·intro w'
             go_simp
             with_reducible rfl
            rotate_left
            ·simp only [Act.put, List.setIfInBounds_toArray, List.set_cons_zero, List.set_cons_succ, i64_w, i32_w]
             rfl
            refine pure_ (i := 7) (N := some 40) (v := ?_) (a' := ?_) #[true, true, true, true, true, true, true, true, false, false, false, false, false, false, false, false, false, false] rfl rfl (any_of HT_.out (by kernel_rfl)) (fun _ _ _ h => h) (Or.inl ⟨by rfl, ?_⟩) ?_ ?_
            rotate_left
            ·intro w'
             go_simp
             with_reducible rfl
            rotate_left
            ·simp only [Act.put, List.setIfInBounds_toArray, List.set_cons_zero, List.set_cons_succ, i64_w, i32_w]
             rfl
            refine pure_ (i := 8) (N := some 41) (v := ?_) (a' := ?_) #[true, true, true, true, true, true, true, true, true, false, false, false, false, false, false, false, false, false] rfl rfl (any_of HT_.out (by kernel_rfl)) (fun _ _ _ h => h) (Or.inl ⟨by rfl, ?_⟩) ?_ ?_
            rotate_left
            ·intro w'
             go_simp
             with_reducible rfl
            rotate_left
            ·simp only [Act.put, List.setIfInBounds_toArray, List.set_cons_zero, List.set_cons_succ, i64_w, i32_w]
             rfl
            refine pure_ (i := 10) (N := some 43) (v := ?_) (a' := ?_) #[true, true, true, true, true, true, true, true, true, false, true, false, false, false, false, false, false, false] rfl rfl (any_of HT_.out (by kernel_rfl)) (fun _ _ _ h => h) (Or.inl ⟨by rfl, ?_⟩) ?_ ?_
            rotate_left
            ·intro w'
             go_simp
             with_reducible rfl
            rotate_left
            ·simp only [Act.put, List.setIfInBounds_toArray, List.set_cons_zero, List.set_cons_succ, i64_w, i32_w]
             rfl
            refine pure_ (i := 11) (N := some 44) (v := ?_) (a' := ?_) #[true, true, true, true, true, true, true, true, true, false, true, true, false, false, false, false, false, false] rfl rfl (any_of HT_.out (by kernel_rfl)) (fun _ _ _ h => h) (Or.inl ⟨by rfl, ?_⟩) ?_ ?_
            rotate_left
            ·intro w'
             go_simp
             with_reducible rfl
            rotate_left
            ·simp only [Act.put, List.setIfInBounds_toArray, List.set_cons_zero, List.set_cons_succ, i64_w, i32_w]
             rfl
            refine pure_ (i := 12) (N := some 45) (v := ?_) (a' := ?_) #[true, true, true, true, true, true, true, true, true, false, true, true, true, false, false, false, false, false] rfl rfl (any_of HT_.out (by kernel_rfl)) (fun _ _ _ h => h) (Or.inl ⟨by rfl, ?_⟩) ?_ ?_
            rotate_left
            ·intro w'
             go_simp
             with_reducible rfl
            rotate_left
            ·simp only [Act.put, List.setIfInBounds_toArray, List.set_cons_zero, List.set_cons_succ, i64_w, i32_w]
             rfl
            refine take_ (i := 9) (N := some 42) (v := ?_) (a' := ?_) #[true, true, true, true, true, true, true, true, true, true, true, true, true, false, false, false, false, false] rfl rfl (take_ofW HT_.out HW_.out (by kernel_rfl)) (fun _ _ _ h => h) (Or.inl ⟨by rfl, ?_⟩) hHeld ?_ ?_
            rotate_left
            ·rintro w' ⟨s0, s1⟩
             go_simp
             with_reducible rfl
            rotate_left
            ·simp only [Act.put, List.setIfInBounds_toArray, List.set_cons_zero, List.set_cons_succ, i64_w, i32_w]
             rfl
            refine take_ (i := 13) (N := some 46) (v := ?_) (a' := ?_) #[true, true, true, true, true, true, true, true, true, true, true, true, true, true, false, false, false, false] rfl rfl (take_ofW HT_.out HW_.out (by kernel_rfl)) (fun _ _ _ h => h) (Or.inl ⟨by rfl, ?_⟩) hHeld ?_ ?_
            rotate_left
            ·rintro w' ⟨s0, s1⟩
             go_simp
             with_reducible rfl
            rotate_left
            ·simp only [Act.put, List.setIfInBounds_toArray, List.set_cons_zero, List.set_cons_succ, i64_w, i32_w]
             rfl
            refine pure_ (i := 14) (N := some 47) (v := ?_) (a' := ?_) #[true, true, true, true, true, true, true, true, true, true, true, true, true, true, true, false, false, false] rfl rfl (any_of HT_.out (by kernel_rfl)) (fun _ _ _ h => h) (Or.inl ⟨by rfl, ?_⟩) ?_ ?_
            rotate_left
            ·intro w'
             go_simp
             with_reducible rfl
            rotate_left
            ·simp only [Act.put, List.setIfInBounds_toArray, List.set_cons_zero, List.set_cons_succ, i64_w, i32_w]
             rfl
            refine last_ (i := 15) (N := none) #[true, true, true, true, true, true, true, true, true, true, true, true, true, true, true, true, false, false] rfl rfl (one_of HT_.out (by kernel_rfl)) (by decide) (fun K hK => ?_)
            refine skip_ (w1 := ?_) (by rfl) rfl ?_ ?_
            rotate_left
            ·go_simp
             rfl
            refine hK.out _ _ ?_
            clear hK K
            refine pure_ (i := 16) (N := some 48) (v := ?_) (a' := ?_) #[true, true, true, true, true, true, true, true, true, true, true, true, true, true, true, true, true, false] rfl rfl (any_of HT_.out (by kernel_rfl)) (fun _ _ _ h => h) (Or.inl ⟨by rfl, ?_⟩) ?_ ?_
            rotate_left
            ·intro w'
             go_simp
             with_reducible rfl
            rotate_left
            ·simp only [Act.put, List.setIfInBounds_toArray, List.set_cons_zero, List.set_cons_succ, i64_w, i32_w]
             rfl
            refine last_ (i := 17) (N := none) #[true, true, true, true, true, true, true, true, true, true, true, true, true, true, true, true, true, true] rfl rfl (one_of HT_.out (by kernel_rfl)) (by decide) (fun K hK => ?_)
            refine skip_ (w1 := ?_) (by rfl) rfl ?_ ?_
            rotate_left
            ·go_simp
             rfl
            refine hK.out _ _ ?_
            clear hK K
            refine done_ (done_of HT_.out (by kernel_rfl)) ?_
            try go_wp2
            go_roundg k2
            case measure => have := HK1.out; have := HK2.out; omega
            case rel => exact ⟨(y161), (ji8), (by first | rfl | (simp; done) | (simp only [← hji8] <;> (first | rfl | simp)) | (simp [*]; done)), H', ⟨by have := HK1.out; have := HK2.out; omega⟩, ⟨by (with_reducible repeat (first | apply Kd.R_alloc | apply Kd.R_drewN | apply Kd.R_drew)); exact HQ19.out⟩, ⟨by repeat (first | (with_reducible first | exact HK.out | apply Kept.alloc | apply Kept.drewN | apply Kept.drew | refine Kept.setCell ?_ HMgo13.out _ | refine Kept.setCell ?_ HMgo13.out _) | exact HK.out)⟩, ⟨by repeat (first | (with_reducible first | exact HB.out | apply below_alloc | apply pw_below_drewN | apply below_drew1 | refine below_set ?_ GB13.out | refine below_set ?_ GB13.out) | exact HB.out)⟩⟩
           ·replace c12 := Bool.eq_false_iff.mpr c12
            subst c12
            have H1 : (slices_insertionSortOrdered_uint64.l0 k2 x0_2 a1 a2 (wrap64 (x6_1 + 1))) = some r := by rw [if_neg (show ¬ (false = true) by decide)] at H; exact H
            clear H
            have H := H1
            clear H1
            have H' := Aside0.mk H
            clear H
            try go_wp2
            have n0_ := Aside0.mk (Kd.R_drew HO_0.out)
            have n1_ := Aside0.mk (Kept.drew HK.out)
            have n2_ := Aside0.mk (below_drew1 HB.out)
            clear HO_0
            clear HK
            clear HB
            have HO_0 := n0_
            have HK := n1_
            have HB := n2_
            clear n0_ n1_ n2_
            obtain ⟨Ao21, co21, eo21⟩ := Kd.R_slice HO_0.out
            (first | subst eo21 | (injection eo21 with f1_ f2_ f3_; have f4_ := f1_.symm; have f5_ := f3_.symm; clear f1_ f2_ f3_; subst f4_; subst f5_))
            have p155 : 0 ≤ (x7_2 : Int) := of_decide_eq_true (by first | (with_reducible assumption) | assumption)
            have q155 : x7_2 < (x0_2.length : Int) := of_decide_eq_true (by first | (with_reducible assumption) | assumption)
            obtain ⟨ad155, e155, hx155_0⟩ := Kd.at_int (Kd.R_reads' HO_0.out).2.2 x7_2 p155 q155
            cases e155
            replace p155 := eq_true p155
            replace q155 := eq_true q155
            have p156 : 0 ≤ ((ji8) : Int) := of_decide_eq_true (by first | (with_reducible assumption) | assumption)
            have q156 : (ji8) < (x0_2.length : Int) := of_decide_eq_true (by first | (with_reducible assumption) | assumption)
            obtain ⟨ad156, e156, hx156_0⟩ := Kd.at_int (Kd.R_reads' HO_0.out).2.2 (ji8) p156 q156
            obtain rfl : ad155 = ad156 := (by injection e156)
            replace p156 := eq_true p156
            replace q156 := eq_true q156
            refine start_ (n := 15) (S := fun w' => w'.cell? (ad155.add (x7_2).toNat) = some (.int .u64 (rd x0_2 x7_2)) ∧ w'.cell? (ad155.add ((ji8)).toNat) = some (.int .u64 (rd x0_2 (ji8)))) (ds := []) #[false, false, false, false, false, false, false, false, false, false, false, false, false, false, false] (by kernel_rfl) rfl rfl ⟨hx155_0, hx156_0⟩ (fun hHeld => ?_); refine with_tabW slices_insertionSortOrdered_uint64.tab4 slices_insertionSortOrdered_uint64.bits4 (fun HT_ HW_ => ?_)
            generalize wr.drew = w20 at HO_0 HK HB hx155_0 hx156_0 hHeld ⊢
            refine pure_ (i := 0) (N := some 16) (v := ?_) (a' := ?_) #[true, false, false, false, false, false, false, false, false, false, false, false, false, false, false] rfl rfl (any_of HT_.out (by kernel_rfl)) (fun _ _ _ h => h) (Or.inl ⟨by rfl, ?_⟩) ?_ ?_
            rotate_left
            ·intro w'
             go_simp
             with_reducible rfl
            rotate_left
            ·simp only [Act.put, List.setIfInBounds_toArray, List.set_cons_zero, List.set_cons_succ, i64_w, i32_w]
             rfl
            refine pure_ (i := 1) (N := some 17) (v := ?_) (a' := ?_) #[true, true, false, false, false, false, false, false, false, false, false, false, false, false, false] rfl rfl (any_of HT_.out (by kernel_rfl)) (fun _ _ _ h => h) (Or.inl ⟨by rfl, ?_⟩) ?_ ?_
            rotate_left
            ·intro w'
             go_simp
             with_reducible rfl
            rotate_left
            ·simp only [Act.put, List.setIfInBounds_toArray, List.set_cons_zero, List.set_cons_succ, i64_w, i32_w]
             rfl
            refine pure_ (i := 2) (N := some 18) (v := ?_) (a' := ?_) #[true, true, true, false, false, false, false, false, false, false, false, false, false, false, false] rfl rfl (any_of HT_.out (by kernel_rfl)) (fun _ _ _ h => h) (Or.inl ⟨by rfl, ?_⟩) ?_ ?_
            rotate_left
            ·intro w'
             go_simp
             with_reducible rfl
            rotate_left
            ·simp only [Act.put, List.setIfInBounds_toArray, List.set_cons_zero, List.set_cons_succ, i64_w, i32_w]
             rfl
            refine pure_ (i := 3) (N := some 19) (v := ?_) (a' := ?_) #[true, true, true, true, false, false, false, false, false, false, false, false, false, false, false] rfl rfl (any_of HT_.out (by kernel_rfl)) (fun _ _ _ h => h) (Or.inl ⟨by rfl, ?_⟩) ?_ ?_
            rotate_left
            ·intro w'
             go_simp
             with_reducible rfl
            rotate_left
            ·simp only [Act.put, List.setIfInBounds_toArray, List.set_cons_zero, List.set_cons_succ, i64_w, i32_w]
             rfl
            refine pure_ (i := 4) (N := some 20) (v := ?_) (a' := ?_) #[true, true, true, true, true, false, false, false, false, false, false, false, false, false, false] rfl rfl (any_of HT_.out (by kernel_rfl)) (fun _ _ _ h => h) (Or.inl ⟨by rfl, ?_⟩) ?_ ?_
            rotate_left
            ·intro w'
             go_simp
             with_reducible rfl
            rotate_left
            ·simp only [Act.put, List.setIfInBounds_toArray, List.set_cons_zero, List.set_cons_succ, i64_w, i32_w]
             rfl
            refine pure_ (i := 5) (N := some 21) (v := ?_) (a' := ?_) #[true, true, true, true, true, true, false, false, false, false, false, false, false, false, false] rfl rfl (any_of HT_.out (by kernel_rfl)) (fun _ _ _ h => h) (Or.inl ⟨by rfl, ?_⟩) ?_ ?_
            rotate_left
            ·intro w'
             go_simp
             with_reducible rfl
            rotate_left
            ·simp only [Act.put, List.setIfInBounds_toArray, List.set_cons_zero, List.set_cons_succ, i64_w, i32_w]
             rfl
            refine pure_ (i := 6) (N := some 22) (v := ?_) (a' := ?_) #[true, true, true, true, true, true, true, false, false, false, false, false, false, false, false] rfl rfl (any_of HT_.out (by kernel_rfl)) (fun _ _ _ h => h) (Or.inl ⟨by rfl, ?_⟩) ?_ ?_
            rotate_left
            ·intro w'
             go_simp
             with_reducible rfl
            rotate_left
            ·simp only [Act.put, List.setIfInBounds_toArray, List.set_cons_zero, List.set_cons_succ, i64_w, i32_w]
             rfl
            refine pure_ (i := 8) (N := some 24) (v := ?_) (a' := ?_) #[true, true, true, true, true, true, true, false, true, false, false, false, false, false, false] rfl rfl (any_of HT_.out (by kernel_rfl)) (fun _ _ _ h => h) (Or.inl ⟨by rfl, ?_⟩) ?_ ?_
            rotate_left
            ·intro w'
             go_simp
             with_reducible rfl
            rotate_left
            ·simp only [Act.put, List.setIfInBounds_toArray, List.set_cons_zero, List.set_cons_succ, i64_w, i32_w]
             rfl
            refine pure_ (i := 9) (N := some 25) (v := ?_) (a' := ?_) #[true, true, true, true, true, true, true, false, true, true, false, false, false, false, false] rfl rfl (any_of HT_.out (by kernel_rfl)) (fun _ _ _ h => h) (Or.inl ⟨by rfl, ?_⟩) ?_ ?_
            rotate_left
            ·intro w'
             go_simp
             with_reducible rfl
            rotate_left
            ·simp only [Act.put, List.setIfInBounds_toArray, List.set_cons_zero, List.set_cons_succ, i64_w, i32_w]
             rfl
            refine pure_ (i := 10) (N := some 26) (v := ?_) (a' := ?_) #[true, true, true, true, true, true, true, false, true, true, true, false, false, false, false] rfl rfl (any_of HT_.out (by kernel_rfl)) (fun _ _ _ h => h) (Or.inl ⟨by rfl, ?_⟩) ?_ ?_
            rotate_left
            ·intro w'
             go_simp
             with_reducible rfl
            rotate_left
            ·simp only [Act.put, List.setIfInBounds_toArray, List.set_cons_zero, List.set_cons_succ, i64_w, i32_w]
             rfl
            refine pure_ (i := 11) (N := some 27) (v := ?_) (a' := ?_) #[true, true, true, true, true, true, true, false, true, true, true, true, false, false, false] rfl rfl (any_of HT_.out (by kernel_rfl)) (fun _ _ _ h => h) (Or.inl ⟨by rfl, ?_⟩) ?_ ?_
            rotate_left
            ·intro w'
             go_simp
             with_reducible rfl
            rotate_left
            ·simp only [Act.put, List.setIfInBounds_toArray, List.set_cons_zero, List.set_cons_succ, i64_w, i32_w]
             rfl
            refine take_ (i := 7) (N := some 23) (v := ?_) (a' := ?_) #[true, true, true, true, true, true, true, true, true, true, true, true, false, false, false] rfl rfl (take_ofW HT_.out HW_.out (by kernel_rfl)) (fun _ _ _ h => h) (Or.inl ⟨by rfl, ?_⟩) hHeld ?_ ?_
            rotate_left
            ·rintro w' ⟨s0, s1⟩
             go_simp
             with_reducible rfl
            rotate_left
            ·simp only [Act.put, List.setIfInBounds_toArray, List.set_cons_zero, List.set_cons_succ, i64_w, i32_w]
             rfl
            refine take_ (i := 12) (N := some 28) (v := ?_) (a' := ?_) #[true, true, true, true, true, true, true, true, true, true, true, true, true, false, false] rfl rfl (take_ofW HT_.out HW_.out (by kernel_rfl)) (fun _ _ _ h => h) (Or.inl ⟨by rfl, ?_⟩) hHeld ?_ ?_
            rotate_left
            ·rintro w' ⟨s0, s1⟩
             go_simp
             with_reducible rfl
            rotate_left
            ·simp only [Act.put, List.setIfInBounds_toArray, List.set_cons_zero, List.set_cons_succ, i64_w, i32_w]
             rfl
            refine one_ (i := 13) (N := some 29) #[true, true, true, true, true, true, true, true, true, true, true, true, true, true, false] rfl rfl (one_of HT_.out (by kernel_rfl)) (by decide) (fun K hK => ?_)
            refine goes_ Tryz.func86 (by kernel_rfl) rfl #[.int .u64 (rd x0_2 x7_2), .int .u64 (rd x0_2 (ji8))] (by rfl) rfl rfl (by (try simp only [List.map_toArray, List.map_cons, List.map_nil]); first | done | (simp only [hji8]; rfl) | rfl | (simp only [List.length_drop, List.length_take]; rfl)) ?_
            with_reducible refine (cmp_Less_uint64.calls (rd x0_2 x7_2) (rd x0_2 (ji8)) false _ A11.out).mono ?_
            rintro e w' ⟨rfl, ⟨nd, rfl⟩⟩
            refine ⟨_, rfl, ?_⟩
            refine hK.out _ _ ⟨hHeld.1, hHeld.2⟩ (fun hHeld => ?_)
            clear hK K
            refine norm_ (a' := ?_) ?_ ?_
            rotate_left
            ·show Act.put _ (some 29) _ = _
             simp only [Act.put, List.setIfInBounds_toArray, List.set_cons_zero, List.set_cons_succ, i64_w, i32_w]
             rfl
            refine pure_ (i := 14) (N := some 30) (v := ?_) (a' := ?_) #[true, true, true, true, true, true, true, true, true, true, true, true, true, true, true] rfl rfl (any_of HT_.out (by kernel_rfl)) (fun _ _ _ h => h) (Or.inl ⟨by rfl, ?_⟩) ?_ ?_
            rotate_left
            ·intro w'
             go_simp
             with_reducible rfl
            rotate_left
            ·simp only [Act.put, List.setIfInBounds_toArray, List.set_cons_zero, List.set_cons_succ, i64_w, i32_w]
             rfl
            refine done_ (done_of HT_.out (by kernel_rfl)) ?_
            try go_wp2
            go_roundg k2
            case measure => have := HK1.out; have := HK2.out; omega
            case rel => exact ⟨(x0_2), (wrap64 (x6_1 + 1)), (by first | rfl | (simp; done) | (simp [*]; done)), H', ⟨by have := HK1.out; have := HK2.out; omega⟩, ⟨by (with_reducible repeat (first | apply Kd.R_alloc | apply Kd.R_drewN | apply Kd.R_drew)); exact HO_0.out⟩, ⟨by repeat (first | (with_reducible first | exact HK.out | apply Kept.alloc | apply Kept.drewN | apply Kept.drew) | exact HK.out)⟩, ⟨by repeat (first | (with_reducible first | exact HB.out | apply below_alloc | apply pw_below_drewN | apply below_drew1) | exact HB.out)⟩⟩
          ·rw [if_neg c10] at H
           exact absurd H (by simp)
         ·rw [if_neg c9] at H
          exact absurd H (by simp)
        ·rw [if_neg c7] at H
         exact absurd H (by simp)
       ·rw [if_neg c6] at H
        exact absurd H (by simp)
      ·rw [if_neg c5] at H
       have c5b0 : decide (a1 < x7_2) = false := decide_eq_false c5
       clear c5
       have H' := Aside0.mk H
       clear H
       try go_wp2
       have n0_ := Aside0.mk (Kd.R_drew HO_0.out)
       have n1_ := Aside0.mk (Kept.drew HK.out)
       have n2_ := Aside0.mk (below_drew1 HB.out)
       clear HO_0
       clear HK
       clear HB
       have HO_0 := n0_
       have HK := n1_
       have HB := n2_
       clear n0_ n1_ n2_
       refine start_ (n := 15) (S := fun w' => True) (ds := []) #[false, false, false, false, false, false, false, false, false, false, false, false, false, false, false] (by kernel_rfl) rfl rfl trivial (fun hHeld => ?_); refine with_tabW slices_insertionSortOrdered_uint64.tab4 slices_insertionSortOrdered_uint64.bits4 (fun HT_ HW_ => ?_)
       generalize wr.drew = w22 at HO_0 HK HB hHeld ⊢
       refine pure_ (i := 0) (N := some 16) (v := ?_) (a' := ?_) #[true, false, false, false, false, false, false, false, false, false, false, false, false, false, false] rfl rfl (any_of HT_.out (by kernel_rfl)) (fun _ _ _ h => h) (Or.inl ⟨by rfl, ?_⟩) ?_ ?_
       rotate_left
       ·intro w'
        go_simp
        with_reducible rfl
       rotate_left
       ·simp only [Act.put, List.setIfInBounds_toArray, List.set_cons_zero, List.set_cons_succ, i64_w, i32_w]
        rfl
       refine pure_ (i := 1) (N := some 17) (v := ?_) (a' := ?_) #[true, true, false, false, false, false, false, false, false, false, false, false, false, false, false] rfl rfl (any_of HT_.out (by kernel_rfl)) (fun _ _ _ h => h) (Or.inl ⟨by rfl, ?_⟩) ?_ ?_
       rotate_left
       ·intro w'
        go_simp
        with_reducible rfl
       rotate_left
       ·simp only [Act.put, List.setIfInBounds_toArray, List.set_cons_zero, List.set_cons_succ, i64_w, i32_w]
        rfl
       refine pure_ (i := 2) (N := some 18) (v := ?_) (a' := ?_) #[true, true, true, false, false, false, false, false, false, false, false, false, false, false, false] rfl rfl (any_of HT_.out (by kernel_rfl)) (fun _ _ _ h => h) (Or.inl ⟨by rfl, ?_⟩) ?_ ?_
       rotate_left
       ·intro w'
        go_simp
        with_reducible rfl
       rotate_left
       ·simp only [Act.put, List.setIfInBounds_toArray, List.set_cons_zero, List.set_cons_succ, i64_w, i32_w]
        rfl
       refine pure_ (i := 3) (N := some 19) (v := ?_) (a' := ?_) #[true, true, true, true, false, false, false, false, false, false, false, false, false, false, false] rfl rfl (any_of HT_.out (by kernel_rfl)) (fun _ _ _ h => h) (Or.inl ⟨by rfl, ?_⟩) ?_ ?_
       rotate_left
       ·intro w'
        go_simp
        with_reducible rfl
       rotate_left
       ·simp only [Act.put, List.setIfInBounds_toArray, List.set_cons_zero, List.set_cons_succ, i64_w, i32_w]
        rfl
       refine pure_ (i := 4) (N := some 20) (v := undef) (a' := ?_) #[true, true, true, true, true, false, false, false, false, false, false, false, false, false, false] rfl rfl (any_of HT_.out (by kernel_rfl)) (fun _ _ _ h => h) (Or.inr ⟨by rfl, rfl⟩) ?_ ?_
       rotate_left
       ·simp only [Act.put, List.setIfInBounds_toArray, List.set_cons_zero, List.set_cons_succ, i64_w, i32_w]
        rfl
       refine pure_ (i := 5) (N := some 21) (v := undef) (a' := ?_) #[true, true, true, true, true, true, false, false, false, false, false, false, false, false, false] rfl rfl (any_of HT_.out (by kernel_rfl)) (fun _ _ _ h => h) (Or.inr ⟨by rfl, rfl⟩) ?_ ?_
       rotate_left
       ·simp only [Act.put, List.setIfInBounds_toArray, List.set_cons_zero, List.set_cons_succ, i64_w, i32_w]
        rfl
       refine pure_ (i := 6) (N := some 22) (v := undef) (a' := ?_) #[true, true, true, true, true, true, true, false, false, false, false, false, false, false, false] rfl rfl (any_of HT_.out (by kernel_rfl)) (fun _ _ _ h => h) (Or.inr ⟨by rfl, rfl⟩) ?_ ?_
       rotate_left
       ·simp only [Act.put, List.setIfInBounds_toArray, List.set_cons_zero, List.set_cons_succ, i64_w, i32_w]
        rfl
       refine pure_ (i := 7) (N := some 23) (v := undef) (a' := ?_) #[true, true, true, true, true, true, true, true, false, false, false, false, false, false, false] rfl rfl (any_of HT_.out (by kernel_rfl)) (fun _ _ _ h => h) (Or.inr ⟨by rfl, rfl⟩) ?_ ?_
       rotate_left
       ·simp only [Act.put, List.setIfInBounds_toArray, List.set_cons_zero, List.set_cons_succ, i64_w, i32_w]
        rfl
       refine pure_ (i := 8) (N := some 24) (v := undef) (a' := ?_) #[true, true, true, true, true, true, true, true, true, false, false, false, false, false, false] rfl rfl (any_of HT_.out (by kernel_rfl)) (fun _ _ _ h => h) (Or.inr ⟨by rfl, rfl⟩) ?_ ?_
       rotate_left
       ·simp only [Act.put, List.setIfInBounds_toArray, List.set_cons_zero, List.set_cons_succ, i64_w, i32_w]
        rfl
       refine pure_ (i := 9) (N := some 25) (v := undef) (a' := ?_) #[true, true, true, true, true, true, true, true, true, true, false, false, false, false, false] rfl rfl (any_of HT_.out (by kernel_rfl)) (fun _ _ _ h => h) (Or.inr ⟨by rfl, rfl⟩) ?_ ?_
       rotate_left
       ·simp only [Act.put, List.setIfInBounds_toArray, List.set_cons_zero, List.set_cons_succ, i64_w, i32_w]
        rfl
       refine pure_ (i := 10) (N := some 26) (v := undef) (a' := ?_) #[true, true, true, true, true, true, true, true, true, true, true, false, false, false, false] rfl rfl (any_of HT_.out (by kernel_rfl)) (fun _ _ _ h => h) (Or.inr ⟨by rfl, rfl⟩) ?_ ?_
       rotate_left
       ·simp only [Act.put, List.setIfInBounds_toArray, List.set_cons_zero, List.set_cons_succ, i64_w, i32_w]
        rfl
       refine pure_ (i := 11) (N := some 27) (v := undef) (a' := ?_) #[true, true, true, true, true, true, true, true, true, true, true, true, false, false, false] rfl rfl (any_of HT_.out (by kernel_rfl)) (fun _ _ _ h => h) (Or.inr ⟨by rfl, rfl⟩) ?_ ?_
       rotate_left
       ·simp only [Act.put, List.setIfInBounds_toArray, List.set_cons_zero, List.set_cons_succ, i64_w, i32_w]
        rfl
       refine pure_ (i := 12) (N := some 28) (v := undef) (a' := ?_) #[true, true, true, true, true, true, true, true, true, true, true, true, true, false, false] rfl rfl (any_of HT_.out (by kernel_rfl)) (fun _ _ _ h => h) (Or.inr ⟨by rfl, rfl⟩) ?_ ?_
       rotate_left
       ·simp only [Act.put, List.setIfInBounds_toArray, List.set_cons_zero, List.set_cons_succ, i64_w, i32_w]
        rfl
       refine pure_ (i := 13) (N := some 29) (v := undef) (a' := ?_) #[true, true, true, true, true, true, true, true, true, true, true, true, true, true, false] rfl rfl (any_of HT_.out (by kernel_rfl)) (fun _ _ _ h => h) (Or.inr ⟨by rfl, rfl⟩) ?_ ?_
       rotate_left
       ·simp only [Act.put, List.setIfInBounds_toArray, List.set_cons_zero, List.set_cons_succ, i64_w, i32_w]
        rfl
       refine pure_ (i := 14) (N := some 30) (v := ?_) (a' := ?_) #[true, true, true, true, true, true, true, true, true, true, true, true, true, true, true] rfl rfl (any_of HT_.out (by kernel_rfl)) (fun _ _ _ h => h) (Or.inl ⟨by rfl, ?_⟩) ?_ ?_
       rotate_left
       ·intro w'
        go_simp
        with_reducible rfl
       rotate_left
       ·simp only [Act.put, List.setIfInBounds_toArray, List.set_cons_zero, List.set_cons_succ, i64_w, i32_w]
        rfl
       refine done_ (done_of HT_.out (by kernel_rfl)) ?_
       try go_wp2
       go_roundg k2
       case measure => have := HK1.out; have := HK2.out; omega
       case rel => exact ⟨(x0_2), (wrap64 (x6_1 + 1)), (by first | rfl | (simp; done) | (simp [*]; done)), H', ⟨by have := HK1.out; have := HK2.out; omega⟩, ⟨by (with_reducible repeat (first | apply Kd.R_alloc | apply Kd.R_drewN | apply Kd.R_drew)); exact HO_0.out⟩, ⟨by repeat (first | (with_reducible first | exact HK.out | apply Kept.alloc | apply Kept.drewN | apply Kept.drew) | exact HK.out)⟩, ⟨by repeat (first | (with_reducible first | exact HB.out | apply below_alloc | apply pw_below_drewN | apply below_drew1) | exact HB.out)⟩⟩
   ·rw [if_neg c4] at H
    have c4b0 : decide (x6_1 < a2) = false := decide_eq_false c4
    clear c4
    obtain rfl := Option.some.inj H
    go_wp2
    first | go_end0 | ((try simp only [Exit.inBlock, Exit.then]); refine bodyPost_ret (results_none rfl _ _ _) rfl ?_)
    exact ⟨by first | rfl | (simp [] <;> rfl) | (simp [*] <;> rfl), by (with_reducible repeat (first | apply Kd.R_alloc | apply Kd.R_drewN | apply Kd.R_drew)); exact HO_0.out, by repeat (first | (with_reducible first | exact HB.out | apply below_alloc | apply pw_below_drewN | apply below_drew1) | exact HB.out), by repeat (first | (with_reducible first | exact HK.out | apply Kept.alloc | apply Kept.drewN | apply Kept.drew) | exact HK.out)⟩
end Go.Proofs.YteadamkkbgnpeaaGreat.QTC
end OfQTCx5
section OfJ5
set_option linter.unusedVariables false
set_option linter.unusedSimpArgs false
namespace Go.Proofs.YteadamkkbgnpeaaGreat.J
open Go.RowKit YteadamkkbgnpeaaGreatW.PrintLast B QTC YteadamkkbgnpeaaGreatW.PrintWords YteadamkkbgnpeaaGreatW.PrintMore
theorem less_f (a b : Int) : cmp_Less_uint64.f a b = some (decide (a < b)) := by
 simp [cmp_Less_uint64.f, cmp_isNaN_uint64.f]
theorem rd_mem {xs : List Int} {i : Int} (h0 : 0 ≤ i) (h1 : i < xs.length) : rd xs i ∈ xs := by
 unfold rd
 have h : i.toNat < xs.length := by omega
 rw [List.getD_eq_getElem?_getD, List.getElem?_eq_getElem h]
 exact List.getElem_mem h
/-- What a sort of len numbers leaves: as many, none of them new. -/
def Sub (len : Nat) (xs r : List Int) : Prop := r.length = len ∧ ∀ x ∈ r, x ∈ xs
theorem wrap64_id {n : Int} (h : -9223372036854775808 ≤ n ∧ n ≤ 9223372036854775807) : wrap64 n = n := by unfold wrap64; omega
theorem ins_l1 (len : Nat) (hl : len ≤ 1000) (x6 : Int) (H0 : ∀ ys : List Int, ys.length = len → ∃ k r, slices_insertionSortOrdered_uint64.l0 k ys 0 len (wrap64 (x6 + 1)) = some r ∧ Sub len ys r) :
  ∀ (j : Nat), j < len → ∀ xs : List Int, xs.length = len → ∃ k r, slices_insertionSortOrdered_uint64.l1 k xs 0 len x6 (j : Int) = some r ∧ Sub len xs r
 | 0, _, xs, hx => by
  obtain ⟨k, r, h1, h2⟩ := H0 xs hx
  refine ⟨k + 1, r, ?_, h2⟩
  rw [slices_insertionSortOrdered_uint64.l1, if_neg (by omega)]
  exact h1
 | j + 1, hj, xs, hx => by
  have ew : wrap64 (((j + 1 : Nat) : Int) - 1) = (j : Int) := by rw [wrap64_id (by omega)]; omega
  have e0 : ∀ k, slices_insertionSortOrdered_uint64.l1 (k + 1) xs 0 len x6 ((j + 1 : Nat) : Int) = if (rd xs ((j + 1 : Nat) : Int)) < (rd xs (j : Int)) then slices_insertionSortOrdered_uint64.l1 k ((xs.set (j + 1) (rd xs (j : Int))).set j (rd xs ((j + 1 : Nat) : Int))) 0 len x6 (j : Int) else slices_insertionSortOrdered_uint64.l0 k xs 0 len (wrap64 (x6 + 1)) := by
   intro k
   rw [slices_insertionSortOrdered_uint64.l1, ew, if_pos (by omega), if_pos (by omega), if_pos (by omega), if_pos (by omega), if_pos (by omega), less_f]
   simp only [Option.bind_some, decide_eq_true_eq]
   rfl
  by_cases hc : (rd xs ((j + 1 : Nat) : Int)) < (rd xs (j : Int))
  ·obtain ⟨k, r, h1, h2, h3⟩ := ins_l1 len hl x6 H0 j (by omega) ((xs.set (j + 1) (rd xs (j : Int))).set j (rd xs ((j + 1 : Nat) : Int))) (by simpa using hx)
   refine ⟨k + 1, r, by rw [e0, if_pos hc]; exact h1, h2, fun x hxr => ?_⟩
   have h4 := h3 x hxr
   rcases List.mem_or_eq_of_mem_set h4 with h4 | rfl
   ·rcases List.mem_or_eq_of_mem_set h4 with h4 | rfl
    ·exact h4
    ·exact rd_mem (by omega) (by omega)
   ·exact rd_mem (by omega) (by omega)
  ·obtain ⟨k, r, h1, h2⟩ := H0 xs hx
   exact ⟨k + 1, r, by rw [e0, if_neg hc]; exact h1, h2⟩
theorem ins_l0 (len : Nat) (hl : len ≤ 1000) : ∀ (m x6 : Nat), len ≤ x6 + m → x6 ≤ len + 1 → ∀ xs : List Int, xs.length = len → ∃ k r, slices_insertionSortOrdered_uint64.l0 k xs 0 len (x6 : Int) = some r ∧ Sub len xs r
 | 0, x6, h1, h2, xs, hx => by
  refine ⟨1, xs, ?_, hx, fun _ h => h⟩
  rw [slices_insertionSortOrdered_uint64.l0, if_neg (by omega)]
 | m + 1, x6, h1, h2, xs, hx => by
  by_cases hc : x6 < len
  ·have H0 : ∀ ys : List Int, ys.length = len → ∃ k r, slices_insertionSortOrdered_uint64.l0 k ys 0 len (wrap64 ((x6 : Int) + 1)) = some r ∧ Sub len ys r := by
    intro ys hy
    have h3 := ins_l0 len hl m (x6 + 1) (by omega) (by omega) ys hy
    rw [wrap64_id (by omega)]
    exact h3
   obtain ⟨k, r, h3, h4⟩ := ins_l1 len hl x6 H0 x6 hc xs hx
   refine ⟨k + 1, r, ?_, h4⟩
   rw [slices_insertionSortOrdered_uint64.l0, if_pos (by omega)]
   exact h3
  ·refine ⟨1, xs, ?_, hx, fun _ h => h⟩
   rw [slices_insertionSortOrdered_uint64.l0, if_neg (by omega)]
theorem ins_f (xs : List Int) (hl : xs.length ≤ 1000) : ∃ k r, slices_insertionSortOrdered_uint64.f k xs 0 xs.length = some r ∧ Sub xs.length xs r := by
 obtain ⟨k, r, h1, h2⟩ := ins_l0 xs.length hl xs.length 1 (by omega) (by omega) xs rfl
 refine ⟨k, r, ?_, h2⟩
 unfold slices_insertionSortOrdered_uint64.f
 rw [wrap64_id (by omega)]
 exact h1
set_option maxHeartbeats 400000 in
set_option maxRecDepth 100000 in
theorem len64_0 (w : World) : Calls Tryz.prog 90 #[.int .u64 0] w fun e w' => (∃ z : Int, e = .returned (.int .i64 z)) ∧ w' = w := by
 go_enter Tryz.func90, Tryz.ntmps90
 go_wp2_with (first | ((with_reducible refine gate_dst (N := 22) rfl ?_); refine Kd.event_run rfl (v := .int .u8 0) (w1 := w) ?hr ?_; (case hr => kernel_rfl)))
 go_ret
 exact ⟨⟨_, rfl⟩, rfl⟩
set_option maxHeartbeats 400000 in
set_option maxRecDepth 100000 in
theorem len64_1 (w : World) : Calls Tryz.prog 90 #[.int .u64 1] w fun e w' => (∃ z : Int, e = .returned (.int .i64 z)) ∧ w' = w := by
 go_enter Tryz.func90, Tryz.ntmps90
 go_wp2_with (first | ((with_reducible refine gate_dst (N := 22) rfl ?_); refine Kd.event_run rfl (v := .int .u8 1) (w1 := w) ?hr ?_; (case hr => kernel_rfl)))
 go_ret
 exact ⟨⟨_, rfl⟩, rfl⟩
set_option maxHeartbeats 400000 in
set_option maxRecDepth 100000 in
theorem len64_2 (w : World) : Calls Tryz.prog 90 #[.int .u64 2] w fun e w' => (∃ z : Int, e = .returned (.int .i64 z)) ∧ w' = w := by
 go_enter Tryz.func90, Tryz.ntmps90
 go_wp2_with (first | ((with_reducible refine gate_dst (N := 22) rfl ?_); refine Kd.event_run rfl (v := .int .u8 2) (w1 := w) ?hr ?_; (case hr => kernel_rfl)))
 go_ret
 exact ⟨⟨_, rfl⟩, rfl⟩
set_option maxHeartbeats 400000 in
set_option maxRecDepth 100000 in
theorem len64_3 (w : World) : Calls Tryz.prog 90 #[.int .u64 3] w fun e w' => (∃ z : Int, e = .returned (.int .i64 z)) ∧ w' = w := by
 go_enter Tryz.func90, Tryz.ntmps90
 go_wp2_with (first | ((with_reducible refine gate_dst (N := 22) rfl ?_); refine Kd.event_run rfl (v := .int .u8 2) (w1 := w) ?hr ?_; (case hr => kernel_rfl)))
 go_ret
 exact ⟨⟨_, rfl⟩, rfl⟩
set_option maxHeartbeats 400000 in
set_option maxRecDepth 100000 in
theorem len64_4 (w : World) : Calls Tryz.prog 90 #[.int .u64 4] w fun e w' => (∃ z : Int, e = .returned (.int .i64 z)) ∧ w' = w := by
 go_enter Tryz.func90, Tryz.ntmps90
 go_wp2_with (first | ((with_reducible refine gate_dst (N := 22) rfl ?_); refine Kd.event_run rfl (v := .int .u8 3) (w1 := w) ?hr ?_; (case hr => kernel_rfl)))
 go_ret
 exact ⟨⟨_, rfl⟩, rfl⟩
theorem len64_calls (n : Nat) (hn : n ≤ 4) (w : World) : Calls Tryz.prog 90 #[.int .u64 (n : Int)] w fun e w' => (∃ z : Int, e = .returned (.int .i64 z)) ∧ w' = w := by
 match n, hn with
 | 0, _ => exact len64_0 w
 | 1, _ => exact len64_1 w
 | 2, _ => exact len64_2 w
 | 3, _ => exact len64_3 w
 | 4, _ => exact len64_4 w
set_option maxHeartbeats 4000000 in
set_option maxRecDepth 100000 in
theorem len_calls (n : Nat) (hn : n ≤ 4) (w : World) : Calls Tryz.prog 73 #[.int .u64 (n : Int)] w fun e w' => (∃ z : Int, e = .returned (.int .i64 z)) ∧ w' = w := by
 go_enter Tryz.func73, Tryz.ntmps73
 go_wp2_with (first
  | (go_at_call 90; refine (len64_calls n hn _).mono ?_; rintro e w2 ⟨⟨z, rfl⟩, rfl⟩))
 go_ret
 exact ⟨⟨_, rfl⟩, rfl⟩
set_option maxHeartbeats 4000000 in
set_option maxRecDepth 100000 in
theorem pdq_calls (xs : List Int) (hl : xs.length ≤ 4) (lim : Int) (A : Option Addr) (c : Nat) (w0 w : World) (hB : Below w0.heap.size w0 w) (ho : Kd.R (Kd.int .u64) 57 w w0.heap.size (fun _ => True) (.slice A xs.length c) xs) :
  Calls Tryz.prog 72 #[.slice A xs.length c, .int .i64 0, .int .i64 (xs.length : Int), .int .i64 lim] w fun e w' => ∃ r, e = .returned (.tuple #[]) ∧ Sub xs.length xs r ∧ Kd.R (Kd.int .u64) 57 w' w0.heap.size (fun _ => True) (.slice A xs.length c) r ∧ Below w0.heap.size w0 w' := by
 obtain ⟨k, r, h1, h2⟩ := ins_f xs (by omega)
 have HF := Aside0.mk h1
 have HS := Aside0.mk h2
 have HO := Aside0.mk ho
 have HB := Aside0.mk hB
 have HL := Aside0.mk hl
 clear h1 h2 ho hB
 have c1 : decide ((xs.length : Int) ≤ 12) = true := decide_eq_true (by omega)
 have c2 := eq_true (show (xs.length : Int) ≤ 12 by omega)
 have c3 : wrap64 (xs.length : Int) = (xs.length : Int) := wrap64_id (by omega)
 clear hl
 go_enter Tryz.func72, Tryz.ntmps72
 go_wp2
 go_loopg [1, 2] 1 (fun kq v1 v2 w' => v1 = .int .i64 0 ∧ v2 = .int .i64 (xs.length : Int) ∧ w' = w)
 case atStart => exact ⟨by first | rfl | simp, by first | rfl | simp, rfl⟩
 case round =>
  obtain ⟨rfl, rfl, rfl⟩ := hrel
  go_wp2_with (first
   | (go_at_call 80; refine (slices_insertionSortOrdered_uint64.calls k (fun _ => True) _ xs 0 (xs.length : Int) r w0 _ HB.out HO.out HF.out).mono ?_; rintro e w2 ⟨rfl, hr, hb, _⟩; have HR2 := Aside0.mk hr; have HB2 := Aside0.mk hb; clear hr hb))
  try rw [Exit.noGoto_ret]
  refine bodyPost_ret (results_none rfl _ _ _) rfl ?_
  exact ⟨_, rfl, HS.out, Kd.R_mono HR2.out (fun _ _ => trivial), HB2.out⟩
set_option maxHeartbeats 4000000 in
set_option maxRecDepth 100000 in
theorem sort_calls (xs : List Int) (hl : xs.length ≤ 4) (v : Value) (w0 w : World) (hB : Below w0.heap.size w0 w) (ho : Kd.R (Kd.int .u64) 57 w w0.heap.size (fun _ => True) v xs) :
  Calls Tryz.prog 67 #[v] w fun e w' => ∃ r, e = .returned (.tuple #[]) ∧ Sub xs.length xs r ∧ Kd.R (Kd.int .u64) 57 w' w0.heap.size (fun _ => True) v r ∧ Below w0.heap.size w0 w' := by
 obtain ⟨A, c, rfl, _, _⟩ := Kd.R_reads ho
 have HO := Aside0.mk ho
 have HB := Aside0.mk hB
 have c3 : IntKind.u64.wrap (xs.length : Int) = (xs.length : Int) := by rw [IntKind.wrap_u64]; omega
 clear ho hB
 go_enter Tryz.func67, Tryz.ntmps67
 go_wp2_with (first
  | (go_at_call 73; refine (len_calls xs.length hl _).mono ?_; rintro e w2 ⟨⟨z, rfl⟩, rfl⟩)
  | (go_at_call 72; refine (pdq_calls xs hl z A c w0 _ HB.out HO.out).mono ?_; rintro e w2 ⟨r, rfl, hs, hr, hb⟩; have HX := Aside0.mk (And.intro hs (And.intro hr hb)); clear hs hr hb))
 go_end0
 exact ⟨_, rfl, HX.out.1, HX.out.2.1, HX.out.2.2⟩
end Go.Proofs.YteadamkkbgnpeaaGreat.J
end OfJ5
section OfJ6
set_option linter.unusedVariables false
set_option linter.unusedSimpArgs false
namespace Go.Proofs.YteadamkkbgnpeaaGreat.J
open Go.RowKit Go.ChangeMaps YteadamkkbgnpeaaGreatW.PrintLast F M A B S QTC YteadamkkbgnpeaaGreatW.PrintWords YteadamkkbgnpeaaGreatW.PrintMore
theorem unseen_far (seen : Array Nat) (b : Nat) : ∀ L : List En, (∀ y ∈ L, y.born ≠ b) → unseen L (seen.push b) = unseen L seen := by
 intro L h
 unfold unseen
 congr 1
 refine List.filter_congr fun y hy => ?_
 have hc : ((seen.push b).contains y.born) = (seen.contains y.born || y.born == b) := push_has _ _ _
 rw [hc, beq_eq_false_iff_ne.mpr (h y hy), Bool.or_false]
theorem unseen_cons (z : En) (t : List En) (seen : Array Nat) : unseen (z :: t) seen = (if seen.contains z.born = true then 0 else 1) + unseen t seen := by
 unfold unseen
 rw [List.filter_cons]
 cases seen.contains z.born <;> simp <;> omega
theorem unseen_push_eq {seen : Array Nat} {x : En} (hs : seen.contains x.born = false) : ∀ {E : List En}, (E.map (·.born)).Nodup → x ∈ E → unseen E (seen.push x.born) + 1 = unseen E seen
 | [], _, h => by cases h
 | z :: t, hn, h => by
  rw [List.map_cons, List.nodup_cons] at hn
  rw [unseen_cons, unseen_cons]
  have hc : ((seen.push x.born).contains z.born) = (seen.contains z.born || z.born == x.born) := push_has _ _ _
  rcases List.mem_cons.mp h with rfl | h
  ·rw [unseen_far seen x.born t (fun y hy e => hn.1 (List.mem_map.mpr ⟨y, hy, e⟩)), hc, hs]
   simp
   omega
  ·have hne : (z.born == x.born) = false := beq_eq_false_iff_ne.mpr (fun e => hn.1 (List.mem_map.mpr ⟨x, h, e.symm⟩))
   rw [hc, hne, Bool.or_false]
   have := unseen_push_eq hs hn.2 h
   omega
theorem unseen_all {E : List En} {seen : Array Nat} (h : AllSeen E seen) : unseen E seen = 0 := by
 unfold unseen
 rw [List.length_eq_zero_iff, List.filter_eq_nil_iff]
 intro x hx
 rw [h.out x hx]
 decide
theorem infoU64 : (Tryz.prog.info? 57).map (fun i => (i.zero, i.size, i.bytes)) = some (some (.int .u64 0), 1, 8) := by kernel_rfl
theorem below_trans {B : Nat} {w w1 w2 : World} (h : Below B w w1) (k : Below B w1 w2) : Below B w w2 := ⟨k.os.trans h.os, k.tape.trans h.tape, k.output.trans h.output, Nat.le_trans h.size k.size, fun i hi => (k.block i hi).trans (h.block i hi)⟩
/-- The walk's state in Waits. -/
structure WS (w wr : World) (r gm clock : Nat) (E : List En) (seen : Array Nat) (v : Value) (xs : List Int) : Prop where
 cnt : unseen E seen + xs.length = E.length
 ids : ∀ x ∈ xs, x ∈ E.map (·.id)
 it : wr.heap[r]? = some (.mapIter (some gm) clock seen clock)
 row : (Kd.int .u64).R 57 wr w.heap.size (fun k => k ≠ r) v xs
 bel : Below w.heap.size w wr
set_option maxHeartbeats 4000000 in
set_option maxRecDepth 100000 in
theorem waits_calls (gt gm : Nat) (fl : Int) (E : List En) (clock : Nat) (hE : E.length ≤ 4) (w : World) (h : TabAt w gt gm fl E clock) :
  Calls Tryz.prog 58 #[.pointer (some ⟨gt, 0, none⟩)] w fun e w' => ∃ v r, e = .returned v ∧ Sub E.length (E.map (·.id)) r ∧ (Kd.int .u64).R 57 w' w.heap.size (fun _ => True) v r ∧ Below w.heap.size w w' := by
 have HT := Aside0.mk h
 have hc1 := h.c1
 clear h
 go_enter Tryz.func58, Tryz.ntmps58
 go_wp2_with (first
  | (go_at_call 41; refine (made_calls gt gm fl E clock _ HT.out).mono ?_; rintro e w2 ⟨rfl, hw2⟩; have hw2 := hw2.symm; subst hw2)
  | ((with_reducible refine gate_dst (N := 11) rfl ?_); refine range_v rfl rfl rfl HT.out.m ?_; intro r w2 hr hi hw; have HX2 : Aside0 (WS w w2 r gm clock E #[] (.slice none 0 0) [] ∧ w.heap.size ≤ r) := ⟨⟨by unfold unseen; rw [List.filter_eq_self.mpr (fun x _ => by simp)]; rfl, (fun _ h => by cases h), hi, Kd.R_nil _ _ _ _ _, hw⟩, by rw [hr]; exact Nat.le_refl _⟩; clear hr hi hw))
 go_frame
 go_loopg [3, 4] (E.length + 1) (fun kq v3 v4 w' => ∃ seen xs, Aside0 (unseen E seen < kq) ∧ Aside0 (WS w w' r gm clock E seen v3 xs))
 case atStart => exact ⟨#[], [], ⟨by have := HX2.out.1.cnt; simp at this; omega⟩, by first | exact ⟨HX2.out.1⟩ | (simp; exact ⟨HX2.out.1⟩)⟩
 case round =>
  obtain ⟨seen, xs, HN, HS⟩ := hrel
  have HT1 : Aside0 (TabAt wr gt gm fl E clock) := ⟨HT.out.below HS.out.bel⟩
  go_wp2_with (first
   | ((with_reducible refine gate_dst (N := 12) rfl ?_); refine next_v rfl rfl rfl HS.out.it HT1.out.m HT1.out.ok ?_ ?_))
  case refine_1 =>
   intro hs
   have hl : xs.length = E.length := by have := HS.out.cnt; have := unseen_all hs; omega
   have HL := Aside0.mk hl
   clear hl
   go_wp2_with (first
    | (go_at_call 67; refine (sort_calls xs (by have := HL.out; omega) _ w _ HS.out.bel (Kd.R_mono HS.out.row (fun _ _ => trivial))).mono ?_; rintro e w3 ⟨rr, rfl, hs3, hr3, hb3⟩; have HX3 : Aside0 (Sub E.length (E.map (·.id)) rr ∧ (Kd.int .u64).R 57 w3 w.heap.size (fun _ => True) u3 rr ∧ Below w.heap.size w w3) := ⟨⟨by rw [hs3.1, HL.out], fun x hx => HS.out.ids x (hs3.2 x hx)⟩, hr3, hb3⟩; clear hs3 hr3 hb3))
   go_ret
   exact ⟨_, _, rfl, HX3.out⟩
  case refine_2 =>
   intro x w3 hx3 hen
   have HX3 : Aside0 (unseen E (seen.push x.born) + 1 = unseen E seen ∧ x.id ∈ E.map (·.id) ∧ r < wr.heap.size) := ⟨unseen_push_eq hx3.new HT1.out.ok.borns hx3.mem, List.mem_map.mpr ⟨x, hx3.mem, rfl⟩, blk_lt HS.out.it⟩
   have HX4 : Aside0 ((Kd.int .u64).R 57 w3 w.heap.size (fun k => k ≠ r) u3 xs ∧ Below w.heap.size w w3) := ⟨Kd.R_step HS.out.row (fun k hk hlt => hx3.fr.block k hlt hk), below_trans HS.out.bel (hx3.fr.belowB HS.out.bel.size (fun k e => by rw [e]; exact HX2.out.2))⟩
   go_wp2_with (first
    | ((with_reducible refine gate_builtin (b := .append) (xs := #[.tmp 16, .tmp 18]) rfl ?_); at_builtin; refine Kd.R_append (Kd.int .u64) (w0 := w) w.heap.size rfl (.tmp 16) (.tmp 18) 131 57 (.int .u64 0) 8 rfl Tryz.underlying131 infoU64 rfl (by decide) (by decide) _ xs x.id [.int .u64 x.id] (fun k => k ≠ r) (fun _ => False) rfl rfl rfl (fun _ hk => hk.elim) (fun k hk => by have := HX3.out.2.2; have := hx3.fr.size; omega) HX4.out.1 HX4.out.2 HX4.out.2.size (by have := HS.out.cnt; omega) ?_; intro v5 w5 ho hb hg hat; have HX5 : Aside0 (WS w w5 r gm clock E (seen.push x.born) v5 (xs ++ [x.id])) := ⟨⟨by have := HX3.out.1; have := HS.out.cnt; rw [List.length_append, List.length_singleton]; omega, fun z hz => (List.mem_append.mp hz).elim (HS.out.ids z) (fun e => by rw [List.mem_singleton.mp e]; exact HX3.out.2.1), (hg.block r (blk_lt hx3.it) (Kd.R_away HX4.out.1 (fun k hk => hk))).trans hx3.it, ho, hb⟩⟩; clear ho hb hg hat))
   go_roundg (gk - 1)
   case measure => have := HN.out; omega
   case rel => exact ⟨_, _, ⟨by have := HX3.out.1; have := HN.out; omega⟩, HX5⟩
/-- What room does: a table with room, or, where the least frame is newer, nothing. -/
structure RoomPost (w w' : World) (gt gm : Nat) (fl : Int) (E : List En) (clock : Nat) (id : Int) (ok : Bool) (fl' : Int) (E' : List En) : Prop where
 tab : TabAt w' gt gm fl' E' clock
 fr : Fr w w' (fun k => k = gt ∨ k = gm)
 room : ok = true → E'.length < 4
 old : ok = false → (∃ y ∈ E, id < y.id)
 as_ : (fl' = fl ∧ E' = E) ∨ ∃ y ∈ E, fl' = y.id + 1 ∧ E' = E.filter (fun x => decide (y.id + 1 ≤ x.id)) ∧ y.id ≤ id
theorem u64_add1 (x : Int) (h : 0 ≤ x ∧ x ≤ 1000000) : IntKind.u64.wrap (x + 1) = x + 1 := by rw [IntKind.wrap_u64]; omega
set_option maxHeartbeats 4000000 in
set_option maxRecDepth 100000 in
theorem room_calls (gt gm : Nat) (fl : Int) (E : List En) (clock : Nat) (hE : E.length ≤ 4) (hid : ∀ x ∈ E, 0 ≤ x.id ∧ x.id ≤ 1000000) (id : Int) (w : World) (h : TabAt w gt gm fl E clock) :
  Calls Tryz.prog 42 #[.pointer (some ⟨gt, 0, none⟩), .int .u64 id] w fun e w' => ∃ ok fl' E', e = .returned (.int .i64 (if ok = true then 0 else 5)) ∧ RoomPost w w' gt gm fl E clock id ok fl' E' := by
 have HT := Aside0.mk h
 have HE := Aside0.mk (And.intro hE hid)
 clear h hE hid
 obtain ⟨n, hn⟩ : ∃ n, E.length = n := ⟨_, rfl⟩
 have HN := Aside0.mk hn
 clear hn
 by_cases c1 : n < 4
 ·have c1b : decide ((n : Int) < 4) = true := decide_eq_true (by omega)
  have c1c : (n : Int) < 4 := by omega
  go_enter Tryz.func42, Tryz.ntmps42
  go_wp2_with (first
   | (go_at_call 58; refine (waits_calls gt gm fl E clock HE.out.1 _ HT.out).mono ?_; rintro e w2 ⟨v, r, rfl, hs, hr, hb⟩; obtain ⟨A, c, rfl, _, _⟩ := Kd.R_reads hr; rw [hs.1, HN.out]; have HX2 : Aside0 (TabAt w2 gt gm fl E clock ∧ Below w.heap.size w w2) := ⟨HT.out.below hb, hb⟩; clear hs hr hb))
  go_ret
  exact ⟨true, _, _, rfl, HX2.out.1, Fr.of_below HX2.out.2 _, fun _ => by rw [HN.out]; exact c1, (fun h => by cases h), .inl ⟨rfl, rfl⟩⟩
 ·have c1b : decide ((n : Int) < 4) = false := decide_eq_false (by omega)
  have c1c : ¬ (n : Int) < 4 := by omega
  have c1d : 0 < (n : Int) := by omega
  go_enter Tryz.func42, Tryz.ntmps42
  go_wp2_with (first
   | (go_at_call 58; refine (waits_calls gt gm fl E clock HE.out.1 _ HT.out).mono ?_; rintro e w2 ⟨v, r, rfl, hs, hr, hb⟩; obtain ⟨A, c, rfl, _, hC⟩ := Kd.R_reads hr; have h0 := Kd.at_int hC 0 (Int.le_refl _) (by rw [hs.1, HN.out]; omega); obtain ⟨ad, rfl, hcell⟩ := h0; rw [hs.1, HN.out]; have hmem := hs.2 _ (rd_mem (i := 0) (Int.le_refl _) (by rw [hs.1, HN.out]; omega)); obtain ⟨y, hy⟩ := List.mem_map.mp hmem; rw [← hy.2, show ad.add ((0 : Int).toNat) = ad by cases ad; simp [Addr.add]] at hcell; have HX2 : Aside0 (TabAt w2 gt gm fl E clock ∧ Below w.heap.size w w2 ∧ y ∈ E) := ⟨HT.out.below hb, hb, hy.1⟩; clear hs hr hb hC hmem hy)
   | (go_at_call 44; rw [u64_add1 y.id (HE.out.2 y HX2.out.2.2)]; refine (raise_calls gt gm fl (y.id + 1) E clock _ HX2.out.1).mono ?_; rintro e w3 ⟨rfl, ht, hf⟩; have HX3 : Aside0 (TabAt w3 gt gm (y.id + 1) (E.filter (fun x => decide (y.id + 1 ≤ x.id))) clock ∧ Fr w w3 (fun k => k = gt ∨ k = gm)) := ⟨ht, (Fr.of_below HX2.out.2.1 _).trans hf (fun k e => .inl e)⟩; clear ht hf))
  ·rename_i hlt
   go_ret
   exact ⟨false, _, _, rfl, HX2.out.1, Fr.of_below HX2.out.2.1 _, (fun h => by cases h), fun _ => ⟨y, HX2.out.2.2, hlt⟩, .inl ⟨rfl, rfl⟩⟩
  ·rename_i hle
   go_ret
   refine ⟨true, _, _, rfl, HX3.out.1, HX3.out.2, fun _ => ?_, (fun h => by cases h), .inr ⟨y, HX2.out.2.2, rfl, rfl, hle⟩⟩
   have h1 : (E.filter (fun x => decide (y.id + 1 ≤ x.id))).length < E.length := by
    rw [List.length_filter_lt_length_iff_exists]
    exact ⟨y, HX2.out.2.2, by simp; omega⟩
   have := HE.out.1
   omega
end Go.Proofs.YteadamkkbgnpeaaGreat.J
end OfJ6
section OfJ7
set_option linter.unusedVariables false
set_option linter.unusedSimpArgs false
namespace Go.Proofs.YteadamkkbgnpeaaGreat.J
open Go.RowKit Go.ChangeMaps YteadamkkbgnpeaaGreatW.PrintLast F M A B S QTC YteadamkkbgnpeaaGreatW.PrintWords YteadamkkbgnpeaaGreatW.PrintMore
/-- A frame that is open: its number, its block, when it came, which of its parts came. -/
structure Op where
 id : Int
 b : Nat
 born : Nat
 came : List Bool
def Op.en (x : Op) : En := ⟨x.id, x.b, x.born⟩
def missing (came : List Bool) : Nat := (came.filter (fun c => !c)).length
theorem missing_cons (c : Bool) (t : List Bool) : missing (c :: t) = (if c = true then 0 else 1) + missing t := by
 unfold missing
 cases c <;> simp <;> omega
theorem missing_set : ∀ (came : List Bool) (i : Nat), i < came.length → came.getD i false = false → missing (came.set i true) + 1 = missing came
 | [], _, h, _ => absurd h (Nat.not_lt_zero _)
 | c :: t, 0, _, h => by
  have hc : c = false := by simpa using h
  subst hc
  rw [List.set_cons_zero, missing_cons, missing_cons]
  simp
  omega
 | c :: t, i + 1, h, h2 => by
  have := missing_set t i (by simpa using h) (by simpa using h2)
  rw [List.set_cons_succ, missing_cons, missing_cons]
  omega
theorem missing_zero : ∀ (came : List Bool), missing came = 0 → ∀ j, j < came.length → came.getD j false = true
 | [], _, _, h => absurd h (Nat.not_lt_zero _)
 | c :: t, h, j, hj => by
  rw [missing_cons] at h
  cases c with
  | false => simp at h
  | true =>
   cases j with
   | zero => rfl
   | succ j => simpa using missing_zero t (by simpa using h) j (by simpa using hj)
theorem missing_le (came : List Bool) : missing came ≤ came.length := List.length_filter_le _ _
/-- What an open frame's cells say. -/
structure OpenC (w : World) (cs : List Value) (id : Int) (D : List (List Int)) (came : List Bool) : Prop where
 len : cs.length = 322
 n : came.length = D.length
 count : cs[0]? = some (.int .i64 (D.length : Int))
 left : cs[321]? = some (.int .i64 (missing came : Int))
 bit : ∀ j, j < D.length → cs[1 + j]? = some (.bool (came.getD j false))
 part : ∀ j, j < D.length → came.getD j false = true → ∃ v, cs[65 + j * 4]? = some (.int .u64 id) ∧ cs[65 + j * 4 + 1]? = some (.int .i64 (j : Int)) ∧ cs[65 + j * 4 + 2]? = some (.int .i64 (D.length : Int)) ∧ cs[65 + j * 4 + 3]? = some v ∧ Byt 0 w v (D.getD j [])
def OpenAt (w : World) (b : Nat) (id : Int) (D : List (List Int)) (came : List Bool) : Prop := ∃ cs : List Value, w.heap[b]? = some (.cells cs.toArray 113 (0, 0)) ∧ OpenC w cs id D came
section
variable {w w1 : World} {b : Nat} {id : Int} {D : List (List Int)} {came : List Bool} {cs : List Value} {S : Nat → Prop}
theorem OpenC.fr (h : OpenC w cs id D came) (f : Fr w w1 S) (hS : ∀ k, S k → ¬ T5 w k) : OpenC w1 cs id D came :=
 ⟨h.len, h.n, h.count, h.left, h.bit, fun j hj hc => let ⟨v, h1, h2, h3, h4, h5⟩ := h.part j hj hc; ⟨v, h1, h2, h3, h4, h5.fr f hS⟩⟩
theorem OpenAt.fr (h : OpenAt w b id D came) (f : Fr w w1 S) (hb : ¬ S b) (hS : ∀ k, S k → ¬ T5 w k) : OpenAt w1 b id D came := let ⟨cs, h1, h2⟩ := h; ⟨cs, f.blk h1 hb, h2.fr f hS⟩
theorem OpenAt.below (h : OpenAt w b id D came) (f : Below w.heap.size w w1) : OpenAt w1 b id D came := h.fr (Fr.of_below f (fun _ => False)) (fun e => e) (fun _ e => e.elim)
theorem OpenAt.count (h : OpenAt w b id D came) : w.cell? ⟨b, 0, none⟩ = some (.int .i64 (D.length : Int)) := by
 obtain ⟨cs, h1, h2⟩ := h
 rw [blk_cell h1 0]
 simpa using h2.count
theorem OpenAt.bit (h : OpenAt w b id D came) (j : Nat) (hj : j < D.length) : w.cell? ⟨b, 1 + j, none⟩ = some (.bool (came.getD j false)) := by
 obtain ⟨cs, h1, h2⟩ := h
 rw [blk_cell h1 (1 + j)]
 simpa using h2.bit j hj
end
/-- A new frame's cells. -/
def newC (n : Int) : List Value := .int .i64 n :: (List.replicate 64 (.bool false) ++ ((List.replicate 64 [.int .u64 0, .int .i64 0, .int .i64 0, .slice none 0 0]).flatten ++ [.int .i64 n]))
theorem newC_mid : ((List.replicate 64 (Value.bool false)) ++ ((List.replicate 64 [Value.int .u64 0, .int .i64 0, .int .i64 0, .slice none 0 0]).flatten)).length = 320 := by kernel_rfl
theorem missing_new : ∀ n : Nat, missing (List.replicate n false) = n
 | 0 => rfl
 | n + 1 => by rw [List.replicate_succ, missing_cons, missing_new n]; simp; omega
theorem getD_new (n j : Nat) : (List.replicate n false).getD j false = false := by
 rw [List.getD_eq_getElem?_getD, List.getElem?_replicate]
 split <;> rfl
theorem OpenC.new (w : World) (id : Int) (D : List (List Int)) (hD : D.length ≤ 4) : OpenC w (newC (D.length : Int)) id D (List.replicate D.length false) where
 len := by unfold newC; rw [List.length_cons, ← List.append_assoc, List.length_append, newC_mid]; rfl
 n := List.length_replicate
 count := rfl
 left := by rw [missing_new]; unfold newC; rw [← List.append_assoc, show 321 = 320 + 1 from rfl, List.getElem?_cons_succ, List.getElem?_append_right (by rw [newC_mid]; exact Nat.le_refl _), newC_mid]; rfl
 bit := fun j hj => by
  rw [getD_new]
  unfold newC
  rw [show 1 + j = j + 1 by omega, List.getElem?_cons_succ, List.getElem?_append_left (by rw [List.length_replicate]; omega), List.getElem?_replicate, if_pos (by omega)]
 part := fun j hj hc => by rw [getD_new] at hc; cases hc
/-- A part is put. -/
def putC (cs : List Value) (i : Nat) (p : List Value) (left : Int) : List Value := (splice (cs.set (1 + i) (.bool true)) (65 + i * 4) p).set 321 (.int .i64 left)
theorem splice_get {α : Type} (cur p : List α) (o k : Nat) (h : o + p.length ≤ cur.length) : (splice cur o p)[k]? = if o ≤ k ∧ k < o + p.length then p[k - o]? else cur[k]? := by
 unfold splice
 by_cases h1 : k < o
 ·rw [List.getElem?_append_left (by rw [List.length_take]; omega), List.getElem?_take_of_lt h1, if_neg (by omega)]
 ·rw [List.getElem?_append_right (by rw [List.length_take]; omega), List.length_take, Nat.min_eq_left (by omega)]
  by_cases h2 : k < o + p.length
  ·rw [List.getElem?_append_left (by omega), if_pos (by omega)]
  ·rw [List.getElem?_append_right (by omega), List.getElem?_drop, if_neg (by omega)]
   congr 1
   omega
theorem splice_len {α : Type} (cur p : List α) (o : Nat) (h : o + p.length ≤ cur.length) : (splice cur o p).length = cur.length := by
 unfold splice
 simp
 omega
theorem putC_get (cs : List Value) (i : Nat) (a b c d : Value) (left : Int) (hl : cs.length = 322) (hi : i < 4) (k : Nat) (hk : k < 322) :
  (putC cs i [a, b, c, d] left)[k]? = if k = 321 then some (.int .i64 left) else if 65 + i * 4 ≤ k ∧ k < 65 + i * 4 + 4 then [a, b, c, d][k - (65 + i * 4)]? else if k = 1 + i then some (.bool true) else cs[k]? := by
 have h1 : (cs.set (1 + i) (Value.bool true)).length = 322 := by rw [List.length_set, hl]
 unfold putC
 rw [List.getElem?_set, splice_len _ _ _ (by rw [h1]; simp; omega), h1]
 by_cases h2 : k = 321
 ·rw [if_pos h2, if_pos h2.symm]; rfl
 ·rw [if_neg h2, if_neg (Ne.symm h2), splice_get _ _ _ _ (by rw [h1]; simp; omega)]
  by_cases h3 : 65 + i * 4 ≤ k ∧ k < 65 + i * 4 + 4
  ·rw [if_pos h3, if_pos (by simpa using h3)]
  ·rw [if_neg h3, if_neg (by simpa using h3), List.getElem?_set]
   by_cases h4 : k = 1 + i
   ·rw [if_pos h4, if_pos h4.symm, if_pos (by omega)]
   ·rw [if_neg h4, if_neg (Ne.symm h4)]
theorem getD_set (came : List Bool) (i j : Nat) (hi : i < came.length) : (came.set i true).getD j false = if j = i then true else came.getD j false := by
 rw [List.getD_eq_getElem?_getD, List.getD_eq_getElem?_getD, List.getElem?_set]
 by_cases h : j = i
 ·rw [if_pos h, if_pos h.symm, if_pos hi]; rfl
 ·rw [if_neg h, if_neg (Ne.symm h)]
theorem OpenC.put {w : World} {cs : List Value} {id : Int} {D : List (List Int)} {came : List Bool} (h : OpenC w cs id D came) (hD : D.length ≤ 4) (i : Nat) (hi : i < D.length) (hc : came.getD i false = false) (v : Value) (hv : Byt 0 w v (D.getD i [])) :
  OpenC w (putC cs i [.int .u64 id, .int .i64 (i : Int), .int .i64 (D.length : Int), v] ((missing came : Int) - 1)) id D (came.set i true) where
 len := by unfold putC; rw [List.length_set, splice_len _ _ _ (by rw [List.length_set, h.len]; simp; omega), List.length_set, h.len]
 n := by rw [List.length_set, h.n]
 count := by rw [putC_get _ _ _ _ _ _ _ h.len (by omega) _ (by omega), if_neg (by omega), if_neg (by omega), if_neg (by omega)]; exact h.count
 left := by
  rw [putC_get _ _ _ _ _ _ _ h.len (by omega) _ (by omega), if_pos rfl]
  have := missing_set came i (by rw [h.n]; exact hi) hc
  congr 2
  omega
 bit := fun j hj => by
  rw [putC_get _ _ _ _ _ _ _ h.len (by omega) _ (by omega), if_neg (by omega), if_neg (by omega), getD_set _ _ _ (by rw [h.n]; exact hi)]
  by_cases hji : j = i
  ·rw [if_pos (by omega), if_pos hji]
  ·rw [if_neg (by omega), if_neg hji]; exact h.bit j hj
 part := fun j hj hcj => by
  rw [getD_set _ _ _ (by rw [h.n]; exact hi)] at hcj
  by_cases hji : j = i
  ·subst hji
   refine ⟨v, ?_, ?_, ?_, ?_, hv⟩
   ·rw [putC_get _ _ _ _ _ _ _ h.len (by omega) _ (by omega), if_neg (by omega), if_pos (by omega), show 65 + j * 4 - (65 + j * 4) = 0 by omega]; rfl
   ·rw [putC_get _ _ _ _ _ _ _ h.len (by omega) _ (by omega), if_neg (by omega), if_pos (by omega), show 65 + j * 4 + 1 - (65 + j * 4) = 1 by omega]; rfl
   ·rw [putC_get _ _ _ _ _ _ _ h.len (by omega) _ (by omega), if_neg (by omega), if_pos (by omega), show 65 + j * 4 + 2 - (65 + j * 4) = 2 by omega]; rfl
   ·rw [putC_get _ _ _ _ _ _ _ h.len (by omega) _ (by omega), if_neg (by omega), if_pos (by omega), show 65 + j * 4 + 3 - (65 + j * 4) = 3 by omega]; rfl
  ·rw [if_neg hji] at hcj
   obtain ⟨u, h1, h2, h3, h4, h5⟩ := h.part j hj hcj
   have key : ∀ k, 65 + j * 4 ≤ k → k < 65 + j * 4 + 4 → (putC cs i [.int .u64 id, .int .i64 (i : Int), .int .i64 (D.length : Int), v] ((missing came : Int) - 1))[k]? = cs[k]? := fun k ha hb => by
    rw [putC_get _ _ _ _ _ _ _ h.len (by omega) _ (by omega), if_neg (by omega), if_neg (by omega), if_neg (by omega)]
   exact ⟨u, (key _ (by omega) (by omega)).trans h1, (key _ (by omega) (by omega)).trans h2, (key _ (by omega) (by omega)).trans h3, (key _ (by omega) (by omega)).trans h4, h5⟩
/-- All parts are there. -/
theorem OpenAt.row {w : World} {b : Nat} {id : Int} {D : List (List Int)} {came : List Bool} (h : OpenAt w b id D came) (h0 : missing came = 0) : PRow w b 65 id D.length D := by
 obtain ⟨cs, h1, h2⟩ := h
 intro j hj
 obtain ⟨v, e1, e2, e3, e4, hv⟩ := h2.part j hj (missing_zero came h0 j (by rw [h2.n]; exact hj))
 obtain ⟨A, c, rfl, hc, hC, _⟩ := hv.out
 refine ⟨A, c, fun k u hu => ?_, hc, hC⟩
 rw [blk_cell h1]
 match k, hu with
 | 0, hu => cases hu; simpa using e1
 | 1, hu => cases hu; simpa using e2
 | 2, hu => cases hu; simpa using e3
 | 3, hu => cases hu; simpa using e4
end Go.Proofs.YteadamkkbgnpeaaGreat.J
end OfJ7
section OfJ8
set_option linter.unusedVariables false
set_option linter.unusedSimpArgs false
namespace Go.Proofs.YteadamkkbgnpeaaGreat.J
open Go.RowKit Go.ChangeMaps YteadamkkbgnpeaaGreatW.PrintLast F M A B S QTC YteadamkkbgnpeaaGreatW.PrintWords YteadamkkbgnpeaaGreatW.PrintMore
/-- What a table writes: its own block, its map, its open frames. -/
def TT (w : World) (k : Nat) : Prop := (∃ cs t fr, w.heap[k]? = some (.cells cs t fr) ∧ (t = 91 ∨ t = 113)) ∨ ∃ es c, w.heap[k]? = some (.map es c)
theorem TT.not5 {w : World} {k : Nat} (h : TT w k) : ¬ T5 w k := by
 rintro ⟨cs', fr', e⟩
 rcases h with ⟨cs, t, fr, h, ht⟩ | ⟨es, c, h⟩
 ·rw [h] at e
  injection e with e
  injection e with _ e
  rcases ht with rfl | rfl <;> exact absurd e (by decide)
 ·rw [h] at e
  injection e with e
  cases e
theorem TT.not {w : World} {k t : Nat} {cs : Array Value} {fr : Nat × Nat} (h : TT w k) (hk : w.heap[k]? = some (.cells cs t fr)) : t = 91 ∨ t = 113 := by
 rcases h with ⟨cs, t', fr, h, ht⟩ | ⟨es, c, h⟩
 ·rw [h] at hk
  injection hk with hk
  injection hk with _ hk
  rw [← hk]; exact ht
 ·rw [h] at hk
  injection hk with hk
  cases hk
def Foot (N0 : Nat) (w : World) (k : Nat) : Prop := N0 ≤ k ∧ TT w k
/-- Frames by their numbers. -/
abbrev Frs := Int → List (List Int)
structure TabSt (g : Frs) (N0 : Nat) (w : World) (gt gm : Nat) (fl : Int) (T : List Op) (clock : Nat) : Prop where
 tab : TabAt w gt gm fl (T.map Op.en) clock
 ops : ∀ x ∈ T, OpenAt w x.b x.id (g x.id) x.came
 bs : (T.map (·.b)).Nodup
 lo : N0 ≤ gt ∧ N0 ≤ gm
 lob : ∀ x ∈ T, N0 ≤ x.b
 low : ∀ x ∈ T, fl ≤ x.id
 few : T.length ≤ 4
 ok : ∀ x ∈ T, Whole x.id (g x.id).length (g x.id)
section
variable {g : Frs} {N0 : Nat} {w w1 w2 : World} {gt gm clock : Nat} {fl : Int} {T : List Op} {S : Nat → Prop}
theorem TabSt.foot_t (h : TabSt g N0 w gt gm fl T clock) : Foot N0 w gt := ⟨h.lo.1, .inl ⟨_, _, _, h.tab.t, .inl rfl⟩⟩
theorem TabSt.foot_m (h : TabSt g N0 w gt gm fl T clock) : Foot N0 w gm := ⟨h.lo.2, .inr ⟨_, _, h.tab.m⟩⟩
theorem TabSt.foot_b (h : TabSt g N0 w gt gm fl T clock) {x : Op} (hx : x ∈ T) : Foot N0 w x.b := ⟨h.lob x hx, .inl (let ⟨_, e, _⟩ := h.ops x hx; ⟨_, _, _, e, .inr rfl⟩)⟩
theorem TabSt.fr (h : TabSt g N0 w gt gm fl T clock) (f : Fr w w1 S) (hS : ∀ k, S k → ¬ Foot N0 w k ∧ ¬ T5 w k) : TabSt g N0 w1 gt gm fl T clock :=
 ⟨h.tab.fr f (fun e => (hS _ e).1 h.foot_t) (fun e => (hS _ e).1 h.foot_m), fun x hx => (h.ops x hx).fr f (fun e => (hS _ e).1 (h.foot_b hx)) (fun k e => (hS k e).2), h.bs, h.lo, h.lob, h.low, h.few, h.ok⟩
theorem TabSt.below (h : TabSt g N0 w gt gm fl T clock) (f : Below w.heap.size w w1) : TabSt g N0 w1 gt gm fl T clock := h.fr (Fr.of_below f (fun _ => False)) (fun _ e => e.elim)
theorem TabSt.b_ne (h : TabSt g N0 w gt gm fl T clock) {x : Op} (hx : x ∈ T) : x.b ≠ gt ∧ x.b ≠ gm := by
 obtain ⟨cs, e, _⟩ := h.ops x hx
 exact ⟨ne_objs e h.tab.t (by intro e; injection e with _ e; cases e), ne_objs e h.tab.m (by intro e; cases e)⟩
/-- The table and its map changed alone; fewer frames are open. -/
theorem TabSt.less (h : TabSt g N0 w gt gm fl T clock) {fl' : Int} {p : Op → Bool} (ht : TabAt w1 gt gm fl' ((T.filter p).map Op.en) clock) (f : Fr w w1 (fun k => k = gt ∨ k = gm)) (hl : ∀ x ∈ T, p x = true → fl' ≤ x.id) : TabSt g N0 w1 gt gm fl' (T.filter p) clock := by
 have h5 : ∀ k, (k = gt ∨ k = gm) → ¬ T5 w k := by
  rintro k (rfl | rfl)
  ·exact h.foot_t.2.not5
  ·exact h.foot_m.2.not5
 exact ⟨ht, fun x hx => (h.ops x (List.mem_filter.mp hx).1).fr f (fun e => e.elim (h.b_ne (List.mem_filter.mp hx).1).1 (h.b_ne (List.mem_filter.mp hx).1).2) h5, h.bs.sublist (List.Sublist.map _ List.filter_sublist), h.lo, fun x hx => h.lob x (List.mem_filter.mp hx).1, fun x hx => hl x (List.mem_filter.mp hx).1 (List.mem_filter.mp hx).2, Nat.le_trans (List.length_filter_le _ _) h.few, fun x hx => h.ok x (List.mem_filter.mp hx).1⟩
theorem map_filter_en (T : List Op) (f : Int) : (T.map Op.en).filter (fun x => decide (f ≤ x.id)) = (T.filter (fun x => decide (f ≤ x.id))).map Op.en := by
 rw [List.filter_map]; rfl
theorem TabSt.raise (h : TabSt g N0 w gt gm fl T clock) {fl' : Int} (ht : TabAt w1 gt gm fl' ((T.map Op.en).filter (fun x => decide (fl' ≤ x.id))) clock) (f : Fr w w1 (fun k => k = gt ∨ k = gm)) : TabSt g N0 w1 gt gm fl' (T.filter (fun x => decide (fl' ≤ x.id))) clock :=
 h.less (by rw [← map_filter_en]; exact ht) f (fun x _ hp => of_decide_eq_true hp)
theorem Fr.foot (h : TabSt g N0 w gt gm fl T clock) (f : Fr w w1 (fun k => k = gt ∨ k = gm)) : Fr w w1 (Foot N0 w) := f.mono (fun k e => e.elim (fun e => e ▸ h.foot_t) (fun e => e ▸ h.foot_m))
/-- A frame is new. -/
theorem TabSt.add (h : TabSt g N0 w gt gm fl T clock) {id : Int} {b : Nat} (hb : w.heap[b]? = some (.cells (newC ((g id).length : Int)).toArray 113 (0, 0))) (hlo : N0 ≤ b) (hnb : ∀ x ∈ T, x.b ≠ b) (hn : ∀ x ∈ T, x.id ≠ id) (hl : T.length < 4) (hfl : fl ≤ id) (hW : Whole id (g id).length (g id)) :
  TabSt g N0 (setBlock w gm (.map ((T.map Op.en ++ [(⟨id, b, clock⟩ : En)]).map En.e).toArray (clock + 1))) gt gm fl (T ++ [⟨id, b, clock, List.replicate (g id).length false⟩]) (clock + 1) := by
 have f : Fr w (setBlock w gm (.map ((T.map Op.en ++ [(⟨id, b, clock⟩ : En)]).map En.e).toArray (clock + 1))) (fun k => k = gm) := fr_setBlock
 have hm5 : ∀ k, k = gm → ¬ T5 w k := fun k e => by rw [e]; exact h.foot_m.2.not5
 refine ⟨⟨f.blk h.tab.t h.tab.ne, ?_, ?_⟩, ?_, ?_, h.lo, ?_, ?_, ?_, ?_⟩
 ·unfold MapAt
  rw [setBlock_at h.tab.m, List.map_append (f := Op.en)]
  rfl
 ·rw [List.map_append (f := Op.en)]
  refine ⟨?_, ?_, ?_⟩
  ·rw [List.map_append, List.nodup_append]
   refine ⟨h.tab.ok.ids, (by simp), ?_⟩
   rintro a ha c hc rfl
   simp only [List.map_map, List.mem_map] at ha
   obtain ⟨x, hx, e⟩ := ha
   simp only [List.map_cons, List.map_nil, List.mem_singleton] at hc
   exact hn x hx (e.trans hc)
  ·rw [List.map_append, List.nodup_append]
   refine ⟨h.tab.ok.borns, (by simp), ?_⟩
   rintro a ha c hc rfl
   obtain ⟨x, hx, e⟩ := List.mem_map.mp ha
   have := h.tab.ok.old x hx
   simp only [List.map_cons, List.map_nil, List.mem_singleton, Op.en] at hc
   omega
  ·intro x hx
   rcases List.mem_append.mp hx with hx | hx
   ·have := h.tab.ok.old x hx
    omega
   ·rw [List.mem_singleton.mp hx]
    exact Nat.lt_succ_self _
 ·intro x hx
  rcases List.mem_append.mp hx with hx | hx
  ·exact (h.ops x hx).fr f (h.b_ne hx).2 hm5
  ·rw [List.mem_singleton.mp hx]
   refine ⟨_, f.blk hb (ne_objs hb h.tab.m (by intro e; cases e)), OpenC.new _ _ _ hW.n1.2⟩
 ·rw [List.map_append, List.nodup_append]
  refine ⟨h.bs, (by simp), ?_⟩
  rintro a ha c hc rfl
  obtain ⟨x, hx, e⟩ := List.mem_map.mp ha
  simp only [List.map_cons, List.map_nil, List.mem_singleton] at hc
  exact hnb x hx (e.trans hc)
 ·intro x hx
  rcases List.mem_append.mp hx with hx | hx
  ·exact h.lob x hx
  ·rw [List.mem_singleton.mp hx]; exact hlo
 ·intro x hx
  rcases List.mem_append.mp hx with hx | hx
  ·exact h.low x hx
  ·rw [List.mem_singleton.mp hx]; exact hfl
 ·rw [List.length_append, List.length_singleton]; omega
 ·intro x hx
  rcases List.mem_append.mp hx with hx | hx
  ·exact h.ok x hx
  ·rw [List.mem_singleton.mp hx]; exact hW
/-- The frames behind a part that came. -/
def cameT (T : List Op) (b i : Nat) : List Op := T.map (fun z => if z.b = b then { z with came := z.came.set i true } else z)
theorem cameT_map {α : Type} (f : Op → α) (hf : ∀ (z : Op) (c : List Bool), f { z with came := c } = f z) (T : List Op) (b i : Nat) : (cameT T b i).map f = T.map f := by
 unfold cameT
 rw [List.map_map]
 refine List.map_congr_left fun z _ => ?_
 simp only [Function.comp]
 split
 ·exact hf z _
 ·rfl
theorem cameT_mem {T : List Op} {b i : Nat} {z : Op} (hz : z ∈ cameT T b i) : ∃ y ∈ T, y.id = z.id ∧ y.b = z.b ∧ ((y.b ≠ b ∧ z.came = y.came) ∨ (y.b = b ∧ z.came = y.came.set i true)) := by
 unfold cameT at hz
 obtain ⟨y, hy, e⟩ := List.mem_map.mp hz
 by_cases h : y.b = b
 ·rw [if_pos h] at e
  exact ⟨y, hy, by rw [← e], by rw [← e], .inr ⟨h, by rw [← e]⟩⟩
 ·rw [if_neg h] at e
  exact ⟨y, hy, by rw [e], by rw [e], .inl ⟨h, by rw [e]⟩⟩
theorem b_inj (h : TabSt g N0 w gt gm fl T clock) {x y : Op} (hx : x ∈ T) (hy : y ∈ T) (e : x.b = y.b) : x = y := by
 have h1 := h.bs
 clear h
 induction T with
 | nil => cases hx
 | cons z t ih =>
  rw [List.map_cons, List.nodup_cons] at h1
  rcases List.mem_cons.mp hx with rfl | hx' <;> rcases List.mem_cons.mp hy with rfl | hy'
  ·rfl
  ·exact absurd (List.mem_map.mpr ⟨y, hy', e.symm⟩) h1.1
  ·exact absurd (List.mem_map.mpr ⟨x, hx', e⟩) h1.1
  ·exact ih hx' hy' h1.2
/-- A part was put into x. -/
theorem TabSt.put (h : TabSt g N0 w gt gm fl T clock) {x : Op} (hx : x ∈ T) (i : Nat) (f : Fr w w1 (fun k => k = x.b)) (ho : OpenAt w1 x.b x.id (g x.id) (x.came.set i true)) : TabSt g N0 w1 gt gm fl (cameT T x.b i) clock := by
 have hm : (cameT T x.b i).map Op.en = T.map Op.en := cameT_map _ (fun _ _ => rfl) _ _ _
 have hb5 : ∀ k, k = x.b → ¬ T5 w k := fun k e => by rw [e]; exact (h.foot_b hx).2.not5
 refine ⟨by rw [hm]; exact h.tab.fr f (h.b_ne hx).1.symm (h.b_ne hx).2.symm, ?_, by rw [cameT_map (·.b) (fun _ _ => rfl)]; exact h.bs, h.lo, ?_, ?_, by unfold cameT; rw [List.length_map]; exact h.few, ?_⟩
 ·intro z hz
  obtain ⟨y, hy, e1, e2, ⟨e3, e4⟩ | ⟨e3, e4⟩⟩ := cameT_mem hz
  ·rw [← e1, ← e2, e4]
   exact (h.ops y hy).fr f e3 hb5
  ·have := b_inj h hy hx e3
   subst this
   rw [← e1, ← e2, e4]
   exact ho
 ·intro z hz
  obtain ⟨y, hy, e1, e2, _⟩ := cameT_mem hz
  rw [← e2]; exact h.lob y hy
 ·intro z hz
  obtain ⟨y, hy, e1, e2, _⟩ := cameT_mem hz
  rw [← e1]; exact h.low y hy
 ·intro z hz
  obtain ⟨y, hy, e1, e2, _⟩ := cameT_mem hz
  rw [← e1]; exact h.ok y hy
end
end Go.Proofs.YteadamkkbgnpeaaGreat.J
end OfJ8
