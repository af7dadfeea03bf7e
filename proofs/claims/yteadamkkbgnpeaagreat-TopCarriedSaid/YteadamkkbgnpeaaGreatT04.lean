/- TopCarried: what the law stands on, part 4. No condition. -/
import Derived.Test.YteadamkkbgnpeaaGreatT03
import Derived.Maps.RangeRun
import Derived.Maps.RangeWalk
section OfF1
namespace Go.Proofs.YteadamkkbgnpeaaGreat.F
open Go.RowKit YteadamkkbgnpeaaGreatW.PrintWords YteadamkkbgnpeaaGreatW.PrintLast YteadamkkbgnpeaaGreatW.PrintMore QTC
attribute [local go_sem] max2_int min2_int max_two min_two max_three min_three max_four min_four
set_option linter.unusedVariables false
set_option linter.unusedSimpArgs false
theorem info5 : (Tryz.prog.info? 5).map (fun i => (i.zero, i.size, i.bytes)) = some (some (.int .u8 0), 1, 1) := by kernel_rfl
def slices_Clone_byte_byte.f (l0 : List Int) : Option (List Int) := if l0.length ≤ 100000 then some l0 else none
theorem slices_Clone_byte_byte.calls (A0 : Option Addr) (c0 : Nat) (l0 : List Int) (r : List Int) (w : World) (hr0 : Kd.C (Kd.int .u8) w A0 l0.length l0) (hc0 : l0.length ≤ c0) (h : slices_Clone_byte_byte.f l0 = some r) :
  Calls Tryz.prog 29 #[.slice A0 l0.length c0] w fun e w' => ∃ v0_ : Value, e = .returned (v0_) ∧ Kd.R (Kd.int .u8) 5 w' w.heap.size (fun _ => True) v0_ r ∧ Below w.heap.size w w' := by
 unfold slices_Clone_byte_byte.f at h
 split at h
 ·rename_i hl
  obtain rfl := Option.some.inj h
  exact Go.Proofs.YteadamkkbgnpeaaGreat.M.clone_calls l0 A0 c0 w hr0 hc0 hl
 ·cases h
def vint_Put.f (a0 : Int) : Option (List Int × Int) := if 0 ≤ a0 ∧ a0 < 64 then some ([a0], 0) else none
theorem vint_Put.calls (a0 : Int) (r1 : List Int) (r2 : Int) (w : World) (h : vint_Put.f a0 = some (r1, r2)) :
  Calls Tryz.prog 33 #[.int .u64 a0] w fun e w' => ∃ v0_ : Value, e = .returned (.tuple #[v0_, .int .i64 r2]) ∧ Kd.R (Kd.int .u8) 5 w' w.heap.size (fun _ => True) v0_ r1 ∧ Below w.heap.size w w' := by
 unfold vint_Put.f at h
 split at h
 ·rename_i hl
  cases h
  exact Go.Proofs.YteadamkkbgnpeaaGreat.V.put_calls a0 hl w
 ·cases h
def vint_Get.f (l0 : List Int) (a1 : Int) : Option (Int × Int × Int) := match l0 with
 | [] => none
 | v :: t => if (0 ≤ v ∧ v < 64) ∧ a1 = 0 ∧ t.length + 1 ≤ 100000 then some (v, 1, 0) else none
theorem vint_Get.calls (A0 : Option Addr) (c0 : Nat) (l0 : List Int) (a1 : Int) (r1 : Int) (r2 : Int) (r3 : Int) (w : World) (hr0 : Kd.C (Kd.int .u8) w A0 l0.length l0) (hc0 : l0.length ≤ c0) (h : vint_Get.f l0 a1 = some (r1, r2, r3)) :
  Calls Tryz.prog 40 #[.slice A0 l0.length c0, .int .i64 a1] w fun e w' => e = .returned (.tuple #[.int .u64 r1, .int .i64 r2, .int .i64 r3]) ∧ Below w.heap.size w w' := by
 unfold vint_Get.f at h
 cases l0 with
 | nil => cases h
 | cons v t =>
  simp only at h
  split at h
  ·rename_i hl
   obtain ⟨h1, rfl, h2⟩ := hl
   cases h
   exact Go.Proofs.YteadamkkbgnpeaaGreat.V.get_calls _ t h1 A0 _ c0 w rfl h2 hc0 hr0
  ·cases h
def frag_Write.f (k : Nat) (a0_0 : Int) (a0_1 : Int) (a0_2 : Int) (l0_3 : List Int) : Option (List Int × Int) := (frag_Right.f k a0_0 a0_1 a0_2 l0_3).bind fun t117 => (if t117 = true then ((vint_Put.f a0_0).bind fun bt118 => (if bt118.2 = 0 then ((some (([(a0_1) % 256, (a0_2) % 256] : List Int) : List Int)).bind fun y122 => (if bt118.1.length + y122.length < 140737488355328 then ((some (bt118.1 ++ y122 : List Int)).bind fun y125 => (if y125.length + l0_3.length < 140737488355328 then (some ((y125 ++ l0_3), 0)) else (none))) else (none))) else (some (([] : List Int), bt118.2)))) else (some (([] : List Int), 3)))
set_option maxHeartbeats 8000000 in
set_option maxRecDepth 100000 in
theorem frag_Write.calls (k : Nat) (a0_0 : Int) (a0_1 : Int) (a0_2 : Int) (A0_3 : Option Addr) (c0_3 : Nat) (l0_3 : List Int) (r1 : List Int) (r2 : Int) (w : World) (hr0_3 : Kd.C (Kd.int .u8) w A0_3 l0_3.length l0_3) (hc0_3 : l0_3.length ≤ c0_3) (h : frag_Write.f k a0_0 a0_1 a0_2 l0_3 = some (r1, r2)) :
  Calls Tryz.prog 17 #[.agg #[.int .u64 a0_0, .int .i64 a0_1, .int .i64 a0_2, .slice A0_3 l0_3.length c0_3]] w fun e w' => ∃ v0_ : Value, e = .returned (.tuple #[v0_, .int .i64 r2]) ∧ Kd.R (Kd.int .u8) 5 w' w.heap.size (fun _ => True) v0_ r1 ∧ Below w.heap.size w w' := by
 have hu60 := Tryz.underlying60
 have HR0_3 := Aside0.mk hr0_3
 have HC0_3 := Aside0.mk hc0_3
 clear hr0_3 hc0_3
 have HB := Aside0.mk (Below.refl w.heap.size w)
 have H : ((frag_Right.f k a0_0 a0_1 a0_2 l0_3).bind fun t117 => (if t117 = true then ((vint_Put.f a0_0).bind fun bt118 => (if bt118.2 = 0 then ((some (([(a0_1) % 256, (a0_2) % 256] : List Int) : List Int)).bind fun y122 => (if bt118.1.length + y122.length < 140737488355328 then ((some (bt118.1 ++ y122 : List Int)).bind fun y125 => (if y125.length + l0_3.length < 140737488355328 then (some ((y125 ++ l0_3), 0)) else (none))) else (none))) else (some (([] : List Int), bt118.2)))) else (some (([] : List Int), 3)))) = some (r1, r2) := h
 clear h
 replace H := Option.bind_eq_some_iff.mp H
 obtain ⟨t117, A20, H⟩ := H
 replace H : (if t117 = true then ((vint_Put.f a0_0).bind fun bt118 => (if bt118.2 = 0 then ((some (([(a0_1) % 256, (a0_2) % 256] : List Int) : List Int)).bind fun y122 => (if bt118.1.length + y122.length < 140737488355328 then ((some (bt118.1 ++ y122 : List Int)).bind fun y125 => (if y125.length + l0_3.length < 140737488355328 then (some ((y125 ++ l0_3), 0)) else (none))) else (none))) else (some (([] : List Int), bt118.2)))) else (some (([] : List Int), 3))) = some (r1, r2) := H
 have A2 := Aside0.mk A20
 clear A20
 by_cases c3 : t117 = true
 ·subst c3
  have H1 : ((vint_Put.f a0_0).bind fun bt118 => (if bt118.2 = 0 then ((some (([(a0_1) % 256, (a0_2) % 256] : List Int) : List Int)).bind fun y122 => (if bt118.1.length + y122.length < 140737488355328 then ((some (bt118.1 ++ y122 : List Int)).bind fun y125 => (if y125.length + l0_3.length < 140737488355328 then (some ((y125 ++ l0_3), 0)) else (none))) else (none))) else (some (([] : List Int), bt118.2)))) = some (r1, r2) := by rw [if_pos rfl] at H; exact H
  clear H
  have H := H1
  clear H1
  replace H := Option.bind_eq_some_iff.mp H
  obtain ⟨⟨t118, t119⟩, A40, H⟩ := H
  replace H : (if t119 = 0 then ((some (([(a0_1) % 256, (a0_2) % 256] : List Int) : List Int)).bind fun y122 => (if t118.length + y122.length < 140737488355328 then ((some (t118 ++ y122 : List Int)).bind fun y125 => (if y125.length + l0_3.length < 140737488355328 then (some ((y125 ++ l0_3), 0)) else (none))) else (none))) else (some (([] : List Int), t119))) = some (r1, r2) := H
  have A4 := Aside0.mk A40
  clear A40
  by_cases c5 : t119 = 0
  ·rw [if_pos c5] at H
   have c5b0 : (t119 == 0) = true := beq_iff_eq.mpr c5
   have c5b1 : (t119 != 0) = false := bne_eq_false_iff_eq.mpr c5
   clear c5
   obtain ⟨y122, hy122⟩ : ∃ y_ : List Int, y_ = (([(a0_1) % 256, (a0_2) % 256] : List Int)) := ⟨_, rfl⟩
   replace H : (if t118.length + y122.length < 140737488355328 then ((some (t118 ++ y122 : List Int)).bind fun y125 => (if y125.length + l0_3.length < 140737488355328 then (some ((y125 ++ l0_3), 0)) else (none))) else (none)) = some (r1, r2) := by first | (rw [hy122]; with_reducible exact H) | (have H2_ := (Option.bind_some _ _).symm.trans H; rw [hy122]; with_reducible exact H2_) | (have H2_ := (Option.bind_some _ _).symm.trans H; with_reducible exact H2_) | with_reducible exact H | (rw [hy122]; exact H) | exact H
   have Ny122 := Aside0.mk hy122
   clear hy122
   by_cases c6 : t118.length + y122.length < 140737488355328
   ·rw [if_pos c6] at H
    have LMc6 := Aside0.mk c6
    clear c6
    obtain ⟨y125, hy125⟩ : ∃ y_ : List Int, y_ = (t118 ++ y122) := ⟨_, rfl⟩
    replace H : (if y125.length + l0_3.length < 140737488355328 then (some ((y125 ++ l0_3), 0)) else (none)) = some (r1, r2) := by first | (rw [hy125]; with_reducible exact H) | (have H2_ := (Option.bind_some _ _).symm.trans H; rw [hy125]; with_reducible exact H2_) | (have H2_ := (Option.bind_some _ _).symm.trans H; with_reducible exact H2_) | with_reducible exact H | (rw [hy125]; exact H) | exact H
    have Ny125 := Aside0.mk hy125
    clear hy125
    by_cases c7 : y125.length + l0_3.length < 140737488355328
    ·rw [if_pos c7] at H
     have LMc7 := Aside0.mk c7
     clear c7
     obtain ⟨y128, hy128⟩ : ∃ y_ : List Int, y_ = (y125 ++ l0_3) := ⟨_, rfl⟩
     replace H : (some (y128, 0)) = some (r1, r2) := by first | (rw [hy128]; with_reducible exact H) | (have H2_ := (Option.bind_some _ _).symm.trans H; rw [hy128]; with_reducible exact H2_) | (have H2_ := (Option.bind_some _ _).symm.trans H; with_reducible exact H2_) | with_reducible exact H | (rw [hy128]; exact H) | exact H
     have Ny128 := Aside0.mk hy128
     clear hy128
     simp only [Option.some.injEq, Prod.mk.injEq] at H
     obtain ⟨rfl, rfl⟩ := H
     go_enter Tryz.func17, Tryz.ntmps17
     go_wp2_with (first | ((with_reducible refine gate_dst (N := 1) rfl ?_); refine box_event ?hg (N := 1) ?hd (cs := #[.int .u64 a0_0, .int .i64 a0_1, .int .i64 a0_2, .slice A0_3 l0_3.length c0_3]) (t := 60) ?hr ?_; (case hd => rfl); (case hg => rfl); (case hr => first | (go_simp; done) | (go_simp; rfl)); intro gb116 hg w8 hbox hb; have n0_ := Aside0.mk (below_step (by repeat (first | (with_reducible first | exact HB.out | apply below_alloc | apply pw_below_drewN | apply below_drew1) | exact HB.out)) hb); have n1_ := Aside0.mk (hbox); have n2_ := Aside0.mk ((by rw [hg]; exact (below_size (by repeat (first | (with_reducible first | exact HB.out | apply below_alloc | apply pw_below_drewN | apply below_drew1) | exact HB.out))) : w.heap.size ≤ gb116)); have n3_ := Aside0.mk ((by rw [hg]; exact (below_size (by repeat (first | (with_reducible first | exact HB.out | apply below_alloc | apply pw_below_drewN | apply below_drew1) | exact HB.out))) : w.heap.size ≤ gb116)); clear HB; have HB := n0_; have BK116 := n1_; have GW116 := n2_; have GE116 := n3_; clear n0_ n1_ n2_ n3_; clear hb hbox hg; have hcz9_0 : w8.cell? ⟨gb116, 0, none⟩ = some (.int .u64 a0_0) := (blk_cell BK116.out 0).trans rfl; have hcz9_1 : w8.cell? ⟨gb116, 1, none⟩ = some (.int .i64 a0_1) := (blk_cell BK116.out 1).trans rfl; have hcz9_2 : w8.cell? ⟨gb116, 2, none⟩ = some (.int .i64 a0_2) := (blk_cell BK116.out 2).trans rfl; have hcz9_3 : w8.cell? ⟨gb116, 3, none⟩ = some (.slice A0_3 l0_3.length c0_3) := (blk_cell BK116.out 3).trans rfl; have hfz9_0 := blk_frozen BK116.out 0; have hfz9_1 := blk_frozen BK116.out 1; have hfz9_2 := blk_frozen BK116.out 2; have hfz9_3 := blk_frozen BK116.out 3) | ((with_reducible refine gate_callee (f := 32) rfl ?_); refine goesL_ (some 7) rfl rfl Tryz.func32 (by kernel_rfl) rfl #[.agg #[.int .u64 a0_0, .int .i64 a0_1, .int .i64 a0_2, .slice A0_3 l0_3.length c0_3]] rfl (by (try simp only [List.map_toArray, List.map_cons, List.map_nil]); first | done | rfl | (simp only [List.length_drop, List.length_take]; rfl)) ?_; (with_reducible refine (frag_Right.calls k a0_0 a0_1 a0_2 _ _ l0_3 true _ ?side1 ?side2 A2.out).mono ?_); (case side1 => repeat (first | exact (Kd.C_below HR0_3.out HB.out) | (with_reducible refine Kd.C_alloc ?_ _) | (with_reducible refine Kd.C_drewN ?_ _) | (with_reducible refine Kd.C_drew ?_))); (case side2 => exact HC0_3.out); rintro e w10 ⟨rfl, hb⟩; refine ⟨_, rfl, ?_⟩; have n0_ := Aside0.mk (blk_below (g := gb116) (o := .cells #[.int .u64 a0_0, .int .i64 a0_1, .int .i64 a0_2, .slice A0_3 l0_3.length c0_3] 60 (0, 0)) (by (with_reducible repeat (first | refine blk_drewN ?_ _ | refine blk_drew ?_ | refine blk_alloc ?_ _)); exact BK116.out) hb); have n1_ := Aside0.mk (below_step (by repeat (first | (with_reducible first | exact HB.out | apply below_alloc | apply pw_below_drewN | apply below_drew1 | refine below_set ?_ GE116.out) | exact HB.out)) hb); clear BK116; clear HB; have BK116 := n0_; have HB := n1_; clear n0_ n1_; (try clear hb); (try clear hb2); (try clear hk); (try clear hi); have hcz11_0 : w10.cell? ⟨gb116, 0, none⟩ = some (.int .u64 a0_0) := (blk_cell BK116.out 0).trans rfl; have hcz11_1 : w10.cell? ⟨gb116, 1, none⟩ = some (.int .i64 a0_1) := (blk_cell BK116.out 1).trans rfl; have hcz11_2 : w10.cell? ⟨gb116, 2, none⟩ = some (.int .i64 a0_2) := (blk_cell BK116.out 2).trans rfl; have hcz11_3 : w10.cell? ⟨gb116, 3, none⟩ = some (.slice A0_3 l0_3.length c0_3) := (blk_cell BK116.out 3).trans rfl; have hfz11_0 := blk_frozen BK116.out 0; have hfz11_1 := blk_frozen BK116.out 1; have hfz11_2 := blk_frozen BK116.out 2; have hfz11_3 := blk_frozen BK116.out 3) | ((with_reducible refine gate_callee (f := 33) rfl ?_); refine goesL_ (some 12) rfl rfl Tryz.func33 (by kernel_rfl) rfl #[.int .u64 a0_0] rfl (by (try simp only [List.map_toArray, List.map_cons, List.map_nil]); first | done | rfl | (simp only [List.length_drop, List.length_take]; rfl)) ?_; (with_reducible refine (vint_Put.calls a0_0 t118 t119 _ A4.out).mono ?_); rintro e w12 ⟨v120, rfl, ho0, hb⟩; refine ⟨_, rfl, ?_⟩; have n0_ := Aside0.mk (Kd.R_lower ho0 (below_size (by repeat (first | (with_reducible first | exact HB.out | apply below_alloc | apply pw_below_drewN | apply below_drew1 | refine below_set ?_ GE116.out) | exact HB.out)))); have n1_ := Aside0.mk (blk_below (g := gb116) (o := .cells #[.int .u64 a0_0, .int .i64 a0_1, .int .i64 a0_2, .slice A0_3 l0_3.length c0_3] 60 (0, 0)) (by (with_reducible repeat (first | refine blk_drewN ?_ _ | refine blk_drew ?_ | refine blk_alloc ?_ _)); exact BK116.out) hb); have n2_ := Aside0.mk (below_step (by repeat (first | (with_reducible first | exact HB.out | apply below_alloc | apply pw_below_drewN | apply below_drew1 | refine below_set ?_ GE116.out) | exact HB.out)) hb); clear BK116; clear HB; have HO121 := n0_; have BK116 := n1_; have HB := n2_; clear n0_ n1_ n2_; (try clear hb); (try clear hb2); (try clear hk); (try clear hi); (try clear ho0); have hcz13_0 : w12.cell? ⟨gb116, 0, none⟩ = some (.int .u64 a0_0) := (blk_cell BK116.out 0).trans rfl; have hcz13_1 : w12.cell? ⟨gb116, 1, none⟩ = some (.int .i64 a0_1) := (blk_cell BK116.out 1).trans rfl; have hcz13_2 : w12.cell? ⟨gb116, 2, none⟩ = some (.int .i64 a0_2) := (blk_cell BK116.out 2).trans rfl; have hcz13_3 : w12.cell? ⟨gb116, 3, none⟩ = some (.slice A0_3 l0_3.length c0_3) := (blk_cell BK116.out 3).trans rfl; have hfz13_0 := blk_frozen BK116.out 0; have hfz13_1 := blk_frozen BK116.out 1; have hfz13_2 := blk_frozen BK116.out 2; have hfz13_3 := blk_frozen BK116.out 3) | ((with_reducible refine gate_dst (N := 25) rfl ?_); refine Kd.R_lit (Kd.int .u8) _ 5 ?hg (N := 25) ?hd (xs := ([(a0_1) % 256, (a0_2) % 256] : List Int)) (inner := [.int .u8 ((a0_1) % 256), .int .u8 ((a0_2) % 256)]) (ok := fun _ => True) (okp := fun _ => True) ?hr ?hp (fun _ hk => hk) trivial (Below.refl _ _) (Nat.le_refl _) (by simp) ?_; (case hd => rfl); (case hg => rfl); (case hr => first | (go_simp; done) | (go_simp; rfl)); (case hp => exact (Reps.one (show Kd.M (Kd.int .u8) _ _ _ ((a0_1) % 256) [.int .u8 ((a0_1) % 256)] from rfl) (Reps.one (show Kd.M (Kd.int .u8) _ _ _ ((a0_2) % 256) [.int .u8 ((a0_2) % 256)] from rfl) (Reps.none _ _)))); intro v123 w14 ho15 hb hg_ hnew_; clear hg_ hnew_; (first | rw [← Ny122.out] at ho15 | (simp only [Int.reduceToNat] at ho15; rw [← Ny122.out] at ho15)); have n0_ := Aside0.mk (Kd.R_elder' (by (with_reducible repeat (first | apply Kd.R_alloc | apply Kd.R_drewN | apply Kd.R_drew)); exact HO121.out) (Kd.R_base ho15) hb); have n1_ := Aside0.mk (Kd.R_lower (Kd.R_new' ho15 (Kd.R_lt (by (with_reducible repeat (first | apply Kd.R_alloc | apply Kd.R_drewN | apply Kd.R_drew)); exact HO121.out))) (below_size (by repeat (first | (with_reducible first | exact HB.out | apply below_alloc | apply pw_below_drewN | apply below_drew1 | refine below_set ?_ GE116.out) | exact HB.out)))); have n2_ := Aside0.mk (blk_below (g := gb116) (o := .cells #[.int .u64 a0_0, .int .i64 a0_1, .int .i64 a0_2, .slice A0_3 l0_3.length c0_3] 60 (0, 0)) (by (with_reducible repeat (first | refine blk_drewN ?_ _ | refine blk_drew ?_ | refine blk_alloc ?_ _)); exact BK116.out) hb); have n3_ := Aside0.mk (below_step (by repeat (first | (with_reducible first | exact HB.out | apply below_alloc | apply pw_below_drewN | apply below_drew1 | refine below_set ?_ GE116.out) | exact HB.out)) hb); clear HO121; clear BK116; clear HB; have HO121 := n0_; have HO124 := n1_; have BK116 := n2_; have HB := n3_; clear n0_ n1_ n2_ n3_; clear hb ho15; obtain ⟨Ao17, co17, eo17⟩ := Kd.R_slice HO124.out; subst eo17) | ((with_reducible refine gate_builtin (b := .append) (xs := #[.tmp 18, .tmp 25]) rfl ?_); at_builtin; refine Kd.R_append_rows (Kd.int .u8) (w0 := w) w.heap.size rfl (.tmp 18) (.tmp 25) 22 5 (.int .u8 0) 1 rfl Tryz.underlying22 info5 rfl (by decide) (by omega) v120 t118 y122 _ _ _ (fun k_ => some k_ ≠ (.slice Ao17 y122.length co17 : Value).ownBlock) (fun _ => False) rfl rfl ?aO ?aR (fun _ _ h => h) (fun _ h => h.elim) ?aF ?aB ?aS ?aL ?_; (case aR => repeat (first | exact (Kd.R_reads' HO124.out).2.2 | (with_reducible refine Kd.C_alloc ?_ _) | (with_reducible refine Kd.C_drewN ?_ _) | (with_reducible refine Kd.C_drew ?_))); (case aB => exact (by repeat (first | (with_reducible first | exact HB.out | apply below_alloc | apply pw_below_drewN | apply below_drew1 | refine below_set ?_ GE116.out) | exact HB.out))); (case aF => exact (fun k_ hk => Kd.fresh' (Kd.R_lt (by (with_reducible repeat (first | apply Kd.R_alloc | apply Kd.R_drewN | apply Kd.R_drew)); exact HO124.out)) k_ hk)); (case aO => exact (by (with_reducible repeat (first | apply Kd.R_alloc | apply Kd.R_drewN | apply Kd.R_drew)); exact Kd.R_mono HO121.out (fun _ hk => hk.2))); (case aS => exact (below_size (by repeat (first | (with_reducible first | exact HB.out | apply below_alloc | apply pw_below_drewN | apply below_drew1 | refine below_set ?_ GE116.out) | exact HB.out)))); (case aL => have := LMc6.out; omega); intro v126 w16 ho hb hg hat; rw [← Ny125.out] at ho; have n0_ := Aside0.mk (blk_grown (g := gb116) (o := .cells #[.int .u64 a0_0, .int .i64 a0_1, .int .i64 a0_2, .slice A0_3 l0_3.length c0_3] 60 (0, 0)) (by (with_reducible repeat (first | refine blk_drewN ?_ _ | refine blk_drew ?_ | refine blk_alloc ?_ _)); exact BK116.out) hg (Kd.R_ne HO121.out BK116.out (by decide))); have n1_ := Aside0.mk (Kd.R_after (ok := (fun _ => True)) (by (with_reducible repeat (first | apply Kd.R_alloc | apply Kd.R_drewN | apply Kd.R_drew)); exact HO124.out) hg hat); have n2_ := Aside0.mk (hb); have n3_ := Aside0.mk (ho); clear BK116; clear HO124; clear HB; clear HO121; have BK116 := n0_; have HO124 := n1_; have HB := n2_; have HO127 := n3_; clear n0_ n1_ n2_ n3_; clear ho hb hg hat; have hcz18_0 : w16.cell? ⟨gb116, 0, none⟩ = some (.int .u64 a0_0) := (blk_cell BK116.out 0).trans rfl; have hcz18_1 : w16.cell? ⟨gb116, 1, none⟩ = some (.int .i64 a0_1) := (blk_cell BK116.out 1).trans rfl; have hcz18_2 : w16.cell? ⟨gb116, 2, none⟩ = some (.int .i64 a0_2) := (blk_cell BK116.out 2).trans rfl; have hcz18_3 : w16.cell? ⟨gb116, 3, none⟩ = some (.slice A0_3 l0_3.length c0_3) := (blk_cell BK116.out 3).trans rfl; have hfz18_0 := blk_frozen BK116.out 0; have hfz18_1 := blk_frozen BK116.out 1; have hfz18_2 := blk_frozen BK116.out 2; have hfz18_3 := blk_frozen BK116.out 3) | ((with_reducible refine gate_builtin (b := .append) (xs := #[.tmp 27, .tmp 29]) rfl ?_); at_builtin; refine Kd.R_append_rows (Kd.int .u8) (w0 := w) w.heap.size rfl (.tmp 27) (.tmp 29) 22 5 (.int .u8 0) 1 rfl Tryz.underlying22 info5 rfl (by decide) (by omega) v126 y125 l0_3 _ _ _ (fun k_ => some k_ ≠ (.slice Ao17 y122.length co17 : Value).ownBlock) (fun _ => False) rfl rfl ?aO ?aR (fun _ _ h => h) (fun _ h => h.elim) ?aF ?aB ?aS ?aL ?_; (case aR => repeat (first | exact (Kd.C_below HR0_3.out HB.out) | (with_reducible refine Kd.C_alloc ?_ _) | (with_reducible refine Kd.C_drewN ?_ _) | (with_reducible refine Kd.C_drew ?_))); (case aB => exact (by repeat (first | (with_reducible first | exact HB.out | apply below_alloc | apply pw_below_drewN | apply below_drew1 | refine below_set ?_ GE116.out) | exact HB.out))); (case aF => exact (fun k_ hk => Kd.fresh' (Kd.R_lt (by (with_reducible repeat (first | apply Kd.R_alloc | apply Kd.R_drewN | apply Kd.R_drew)); exact HO124.out)) k_ hk)); (case aO => exact (by (with_reducible repeat (first | apply Kd.R_alloc | apply Kd.R_drewN | apply Kd.R_drew)); exact HO127.out)); (case aS => exact (below_size (by repeat (first | (with_reducible first | exact HB.out | apply below_alloc | apply pw_below_drewN | apply below_drew1 | refine below_set ?_ GE116.out) | exact HB.out)))); (case aL => have := LMc7.out; omega); intro v129 w19 ho hb hg hat; rw [← Ny128.out] at ho; have n0_ := Aside0.mk (blk_grown (g := gb116) (o := .cells #[.int .u64 a0_0, .int .i64 a0_1, .int .i64 a0_2, .slice A0_3 l0_3.length c0_3] 60 (0, 0)) (by (with_reducible repeat (first | refine blk_drewN ?_ _ | refine blk_drew ?_ | refine blk_alloc ?_ _)); exact BK116.out) hg (Kd.R_ne HO127.out BK116.out (by decide))); have n1_ := Aside0.mk (Kd.R_after (ok := (fun _ => True)) (by (with_reducible repeat (first | apply Kd.R_alloc | apply Kd.R_drewN | apply Kd.R_drew)); exact HO124.out) hg hat); have n2_ := Aside0.mk (hb); have n3_ := Aside0.mk (ho); clear BK116; clear HO124; clear HB; clear HO127; have BK116 := n0_; have HO124 := n1_; have HB := n2_; have HO130 := n3_; clear n0_ n1_ n2_ n3_; clear ho hb hg hat))
     go_ret2
     exact ⟨_, by first | rfl | (simp [] <;> rfl) | (simp [*] <;> rfl), by (with_reducible repeat (first | apply Kd.R_alloc | apply Kd.R_drewN | apply Kd.R_drew)); exact Kd.R_mono HO130.out (fun _ hk => trivial), by repeat (first | (with_reducible first | exact HB.out | apply below_alloc | apply pw_below_drewN | apply below_drew1 | refine below_set ?_ GE116.out) | exact HB.out)⟩
    ·rw [if_neg c7] at H
     exact absurd H (by simp)
   ·rw [if_neg c6] at H
    exact absurd H (by simp)
  ·rw [if_neg c5] at H
   have c5b0 : (t119 == 0) = false := beq_eq_false_iff_ne.mpr c5
   have c5b1 : (t119 != 0) = true := bne_iff_ne.mpr c5
   simp only [Option.some.injEq, Prod.mk.injEq] at H
   obtain ⟨rfl, rfl⟩ := H
   go_enter Tryz.func17, Tryz.ntmps17
   go_wp2_with (first | ((with_reducible refine gate_dst (N := 1) rfl ?_); refine box_event ?hg (N := 1) ?hd (cs := #[.int .u64 a0_0, .int .i64 a0_1, .int .i64 a0_2, .slice A0_3 l0_3.length c0_3]) (t := 60) ?hr ?_; (case hd => rfl); (case hg => rfl); (case hr => first | (go_simp; done) | (go_simp; rfl)); intro gb116 hg w20 hbox hb; have n0_ := Aside0.mk (below_step (by repeat (first | (with_reducible first | exact HB.out | apply below_alloc | apply pw_below_drewN | apply below_drew1) | exact HB.out)) hb); have n1_ := Aside0.mk (hbox); have n2_ := Aside0.mk ((by rw [hg]; exact (below_size (by repeat (first | (with_reducible first | exact HB.out | apply below_alloc | apply pw_below_drewN | apply below_drew1) | exact HB.out))) : w.heap.size ≤ gb116)); have n3_ := Aside0.mk ((by rw [hg]; exact (below_size (by repeat (first | (with_reducible first | exact HB.out | apply below_alloc | apply pw_below_drewN | apply below_drew1) | exact HB.out))) : w.heap.size ≤ gb116)); clear HB; have HB := n0_; have BK116 := n1_; have GW116 := n2_; have GE116 := n3_; clear n0_ n1_ n2_ n3_; clear hb hbox hg; have hcz21_0 : w20.cell? ⟨gb116, 0, none⟩ = some (.int .u64 a0_0) := (blk_cell BK116.out 0).trans rfl; have hcz21_1 : w20.cell? ⟨gb116, 1, none⟩ = some (.int .i64 a0_1) := (blk_cell BK116.out 1).trans rfl; have hcz21_2 : w20.cell? ⟨gb116, 2, none⟩ = some (.int .i64 a0_2) := (blk_cell BK116.out 2).trans rfl; have hcz21_3 : w20.cell? ⟨gb116, 3, none⟩ = some (.slice A0_3 l0_3.length c0_3) := (blk_cell BK116.out 3).trans rfl; have hfz21_0 := blk_frozen BK116.out 0; have hfz21_1 := blk_frozen BK116.out 1; have hfz21_2 := blk_frozen BK116.out 2; have hfz21_3 := blk_frozen BK116.out 3) | ((with_reducible refine gate_callee (f := 32) rfl ?_); refine goesL_ (some 7) rfl rfl Tryz.func32 (by kernel_rfl) rfl #[.agg #[.int .u64 a0_0, .int .i64 a0_1, .int .i64 a0_2, .slice A0_3 l0_3.length c0_3]] rfl (by (try simp only [List.map_toArray, List.map_cons, List.map_nil]); first | done | rfl | (simp only [List.length_drop, List.length_take]; rfl)) ?_; (with_reducible refine (frag_Right.calls k a0_0 a0_1 a0_2 _ _ l0_3 true _ ?side1 ?side2 A2.out).mono ?_); (case side1 => repeat (first | exact (Kd.C_below HR0_3.out HB.out) | (with_reducible refine Kd.C_alloc ?_ _) | (with_reducible refine Kd.C_drewN ?_ _) | (with_reducible refine Kd.C_drew ?_))); (case side2 => exact HC0_3.out); rintro e w22 ⟨rfl, hb⟩; refine ⟨_, rfl, ?_⟩; have n0_ := Aside0.mk (blk_below (g := gb116) (o := .cells #[.int .u64 a0_0, .int .i64 a0_1, .int .i64 a0_2, .slice A0_3 l0_3.length c0_3] 60 (0, 0)) (by (with_reducible repeat (first | refine blk_drewN ?_ _ | refine blk_drew ?_ | refine blk_alloc ?_ _)); exact BK116.out) hb); have n1_ := Aside0.mk (below_step (by repeat (first | (with_reducible first | exact HB.out | apply below_alloc | apply pw_below_drewN | apply below_drew1 | refine below_set ?_ GE116.out) | exact HB.out)) hb); clear BK116; clear HB; have BK116 := n0_; have HB := n1_; clear n0_ n1_; (try clear hb); (try clear hb2); (try clear hk); (try clear hi); have hcz23_0 : w22.cell? ⟨gb116, 0, none⟩ = some (.int .u64 a0_0) := (blk_cell BK116.out 0).trans rfl; have hcz23_1 : w22.cell? ⟨gb116, 1, none⟩ = some (.int .i64 a0_1) := (blk_cell BK116.out 1).trans rfl; have hcz23_2 : w22.cell? ⟨gb116, 2, none⟩ = some (.int .i64 a0_2) := (blk_cell BK116.out 2).trans rfl; have hcz23_3 : w22.cell? ⟨gb116, 3, none⟩ = some (.slice A0_3 l0_3.length c0_3) := (blk_cell BK116.out 3).trans rfl; have hfz23_0 := blk_frozen BK116.out 0; have hfz23_1 := blk_frozen BK116.out 1; have hfz23_2 := blk_frozen BK116.out 2; have hfz23_3 := blk_frozen BK116.out 3) | ((with_reducible refine gate_callee (f := 33) rfl ?_); refine goesL_ (some 12) rfl rfl Tryz.func33 (by kernel_rfl) rfl #[.int .u64 a0_0] rfl (by (try simp only [List.map_toArray, List.map_cons, List.map_nil]); first | done | rfl | (simp only [List.length_drop, List.length_take]; rfl)) ?_; (with_reducible refine (vint_Put.calls a0_0 t118 t119 _ A4.out).mono ?_); rintro e w24 ⟨v120, rfl, ho0, hb⟩; refine ⟨_, rfl, ?_⟩; have n0_ := Aside0.mk (Kd.R_lower ho0 (below_size (by repeat (first | (with_reducible first | exact HB.out | apply below_alloc | apply pw_below_drewN | apply below_drew1 | refine below_set ?_ GE116.out) | exact HB.out)))); have n1_ := Aside0.mk (blk_below (g := gb116) (o := .cells #[.int .u64 a0_0, .int .i64 a0_1, .int .i64 a0_2, .slice A0_3 l0_3.length c0_3] 60 (0, 0)) (by (with_reducible repeat (first | refine blk_drewN ?_ _ | refine blk_drew ?_ | refine blk_alloc ?_ _)); exact BK116.out) hb); have n2_ := Aside0.mk (below_step (by repeat (first | (with_reducible first | exact HB.out | apply below_alloc | apply pw_below_drewN | apply below_drew1 | refine below_set ?_ GE116.out) | exact HB.out)) hb); clear BK116; clear HB; have HO121 := n0_; have BK116 := n1_; have HB := n2_; clear n0_ n1_ n2_; (try clear hb); (try clear hb2); (try clear hk); (try clear hi); (try clear ho0)))
   go_ret2
   exact ⟨_, by first | rfl | (simp [] <;> rfl) | (simp [*] <;> rfl), by first | exact Kd.R_nil _ _ _ _ _ | exact Kd.N_nil _ _ _ _ _ | exact Kd.V_nil _ _ _ _ _ | exact Kd.Q_nil _ _ _ _ _ | exact Kd.S_nil _ _ _ _ _, by repeat (first | (with_reducible first | exact HB.out | apply below_alloc | apply pw_below_drewN | apply below_drew1 | refine below_set ?_ GE116.out) | exact HB.out)⟩
 ·replace c3 := Bool.eq_false_iff.mpr c3
  subst c3
  have H1 : (some (([] : List Int), 3)) = some (r1, r2) := by rw [if_neg (show ¬ (false = true) by decide)] at H; exact H
  clear H
  have H := H1
  clear H1
  simp only [Option.some.injEq, Prod.mk.injEq] at H
  obtain ⟨rfl, rfl⟩ := H
  go_enter Tryz.func17, Tryz.ntmps17
  go_wp2_with (first | ((with_reducible refine gate_dst (N := 1) rfl ?_); refine box_event ?hg (N := 1) ?hd (cs := #[.int .u64 a0_0, .int .i64 a0_1, .int .i64 a0_2, .slice A0_3 l0_3.length c0_3]) (t := 60) ?hr ?_; (case hd => rfl); (case hg => rfl); (case hr => first | (go_simp; done) | (go_simp; rfl)); intro gb116 hg w25 hbox hb; have n0_ := Aside0.mk (below_step (by repeat (first | (with_reducible first | exact HB.out | apply below_alloc | apply pw_below_drewN | apply below_drew1) | exact HB.out)) hb); have n1_ := Aside0.mk (hbox); have n2_ := Aside0.mk ((by rw [hg]; exact (below_size (by repeat (first | (with_reducible first | exact HB.out | apply below_alloc | apply pw_below_drewN | apply below_drew1) | exact HB.out))) : w.heap.size ≤ gb116)); have n3_ := Aside0.mk ((by rw [hg]; exact (below_size (by repeat (first | (with_reducible first | exact HB.out | apply below_alloc | apply pw_below_drewN | apply below_drew1) | exact HB.out))) : w.heap.size ≤ gb116)); clear HB; have HB := n0_; have BK116 := n1_; have GW116 := n2_; have GE116 := n3_; clear n0_ n1_ n2_ n3_; clear hb hbox hg; have hcz26_0 : w25.cell? ⟨gb116, 0, none⟩ = some (.int .u64 a0_0) := (blk_cell BK116.out 0).trans rfl; have hcz26_1 : w25.cell? ⟨gb116, 1, none⟩ = some (.int .i64 a0_1) := (blk_cell BK116.out 1).trans rfl; have hcz26_2 : w25.cell? ⟨gb116, 2, none⟩ = some (.int .i64 a0_2) := (blk_cell BK116.out 2).trans rfl; have hcz26_3 : w25.cell? ⟨gb116, 3, none⟩ = some (.slice A0_3 l0_3.length c0_3) := (blk_cell BK116.out 3).trans rfl; have hfz26_0 := blk_frozen BK116.out 0; have hfz26_1 := blk_frozen BK116.out 1; have hfz26_2 := blk_frozen BK116.out 2; have hfz26_3 := blk_frozen BK116.out 3) | ((with_reducible refine gate_callee (f := 32) rfl ?_); refine goesL_ (some 7) rfl rfl Tryz.func32 (by kernel_rfl) rfl #[.agg #[.int .u64 a0_0, .int .i64 a0_1, .int .i64 a0_2, .slice A0_3 l0_3.length c0_3]] rfl (by (try simp only [List.map_toArray, List.map_cons, List.map_nil]); first | done | rfl | (simp only [List.length_drop, List.length_take]; rfl)) ?_; (with_reducible refine (frag_Right.calls k a0_0 a0_1 a0_2 _ _ l0_3 false _ ?side1 ?side2 A2.out).mono ?_); (case side1 => repeat (first | exact (Kd.C_below HR0_3.out HB.out) | (with_reducible refine Kd.C_alloc ?_ _) | (with_reducible refine Kd.C_drewN ?_ _) | (with_reducible refine Kd.C_drew ?_))); (case side2 => exact HC0_3.out); rintro e w27 ⟨rfl, hb⟩; refine ⟨_, rfl, ?_⟩; have n0_ := Aside0.mk (blk_below (g := gb116) (o := .cells #[.int .u64 a0_0, .int .i64 a0_1, .int .i64 a0_2, .slice A0_3 l0_3.length c0_3] 60 (0, 0)) (by (with_reducible repeat (first | refine blk_drewN ?_ _ | refine blk_drew ?_ | refine blk_alloc ?_ _)); exact BK116.out) hb); have n1_ := Aside0.mk (below_step (by repeat (first | (with_reducible first | exact HB.out | apply below_alloc | apply pw_below_drewN | apply below_drew1 | refine below_set ?_ GE116.out) | exact HB.out)) hb); clear BK116; clear HB; have BK116 := n0_; have HB := n1_; clear n0_ n1_; (try clear hb); (try clear hb2); (try clear hk); (try clear hi)))
  go_ret2
  exact ⟨_, by first | rfl | (simp [] <;> rfl) | (simp [*] <;> rfl), by first | exact Kd.R_nil _ _ _ _ _ | exact Kd.N_nil _ _ _ _ _ | exact Kd.V_nil _ _ _ _ _ | exact Kd.Q_nil _ _ _ _ _ | exact Kd.S_nil _ _ _ _ _, by repeat (first | (with_reducible first | exact HB.out | apply below_alloc | apply pw_below_drewN | apply below_drew1 | refine below_set ?_ GE116.out) | exact HB.out)⟩
def frag_Read.f (k : Nat) (l0 : List Int) : Option (Int × Int × Int × List Int × Int) := (vint_Get.f l0 0).bind fun bt162 => (if bt162.2.2 = 0 then (if (wrap64 ((l0.length : Int) - bt162.2.1)) < 2 then (some (0, 0, 0, ([] : List Int), 10)) else (if 0 ≤ bt162.2.1 then (if bt162.2.1 < (l0.length : Int) then (if 0 ≤ (wrap64 (bt162.2.1 + 1)) then (if (wrap64 (bt162.2.1 + 1)) < (l0.length : Int) then (if 0 ≤ (wrap64 (bt162.2.1 + 2)) then (if (wrap64 (bt162.2.1 + 2)) ≤ (l0.length : Int) then ((slices_Clone_byte_byte.f (l0.drop ((wrap64 (bt162.2.1 + 2)) : Int).toNat)).bind fun t168 => ((frag_Right.f k bt162.1 (wrap64 (rd l0 bt162.2.1)) (wrap64 (rd l0 (wrap64 (bt162.2.1 + 1)))) t168).bind fun t172 => (if t172 = true then (some (bt162.1, wrap64 (rd l0 bt162.2.1), wrap64 (rd l0 (wrap64 (bt162.2.1 + 1))), t168, 0)) else (some (0, 0, 0, ([] : List Int), 3))))) else (none)) else (none)) else (none)) else (none)) else (none)) else (none))) else (some (0, 0, 0, ([] : List Int), bt162.2.2)))
def frag_Read.T6 : Bool × List (List Nat × List Nat) := (true, [([], []), ([], []), ([], []), ([1, 2], [1, 2]), ([3], [3]), ([4], [4]), ([], []), ([], []), ([7], [7]), ([6, 8], [6, 8]), ([9], [9]), ([10], [10]), ([], []), ([], []), ([13], [13]), ([12, 14], [12, 14]), ([15], [15]), ([0, 5, 11, 16], [0, 5, 11, 16]), ([], []), ([18, 17, 16, 0, 1, 2, 3, 4, 5, 6, 7, 8, 9, 10, 11, 12, 13, 14, 15, 16, 17, 18], [17, 18])])
def frag_Read.B6 : List Nat := [0, 0, 0, 6, 14, 30, 0, 0, 128, 448, 960, 1984, 0, 0, 8192, 28672, 61440, 131071, 0, 524287]
theorem frag_Read.tab6 : rtab .any (opsOf Tryz.f21 6) = frag_Read.T6 := by kernel_rfl
theorem frag_Read.bits6 : waitsOk frag_Read.T6.2 frag_Read.B6 = true := by kernel_rfl
set_option maxHeartbeats 8000000 in
set_option maxRecDepth 100000 in
theorem frag_Read.calls (k : Nat) (A0 : Option Addr) (c0 : Nat) (l0 : List Int) (r1 : Int) (r2 : Int) (r3 : Int) (r4 : List Int) (r5 : Int) (w : World) (hr0 : Kd.C (Kd.int .u8) w A0 l0.length l0) (hc0 : l0.length ≤ c0) (h : frag_Read.f k l0 = some (r1, r2, r3, r4, r5)) :
  Calls Tryz.prog 21 #[.slice A0 l0.length c0] w fun e w' => ∃ v3_ : Value, e = .returned (.tuple #[.agg #[.int .u64 r1, .int .i64 r2, .int .i64 r3, v3_], .int .i64 r5]) ∧ Kd.R (Kd.int .u8) 5 w' w.heap.size (fun _ => True) v3_ r4 ∧ Below w.heap.size w w' := by
 have hu60 := Tryz.underlying60
 have HR0 := Aside0.mk hr0
 have HC0 := Aside0.mk hc0
 clear hr0 hc0
 have HB := Aside0.mk (Below.refl w.heap.size w)
 have H : ((vint_Get.f l0 0).bind fun bt162 => (if bt162.2.2 = 0 then (if (wrap64 ((l0.length : Int) - bt162.2.1)) < 2 then (some (0, 0, 0, ([] : List Int), 10)) else (if 0 ≤ bt162.2.1 then (if bt162.2.1 < (l0.length : Int) then (if 0 ≤ (wrap64 (bt162.2.1 + 1)) then (if (wrap64 (bt162.2.1 + 1)) < (l0.length : Int) then (if 0 ≤ (wrap64 (bt162.2.1 + 2)) then (if (wrap64 (bt162.2.1 + 2)) ≤ (l0.length : Int) then ((slices_Clone_byte_byte.f (l0.drop ((wrap64 (bt162.2.1 + 2)) : Int).toNat)).bind fun t168 => ((frag_Right.f k bt162.1 (wrap64 (rd l0 bt162.2.1)) (wrap64 (rd l0 (wrap64 (bt162.2.1 + 1)))) t168).bind fun t172 => (if t172 = true then (some (bt162.1, wrap64 (rd l0 bt162.2.1), wrap64 (rd l0 (wrap64 (bt162.2.1 + 1))), t168, 0)) else (some (0, 0, 0, ([] : List Int), 3))))) else (none)) else (none)) else (none)) else (none)) else (none)) else (none))) else (some (0, 0, 0, ([] : List Int), bt162.2.2)))) = some (r1, r2, r3, r4, r5) := h
 clear h
 replace H := Option.bind_eq_some_iff.mp H
 obtain ⟨⟨t162, t163, t164⟩, A20, H⟩ := H
 replace H : (if t164 = 0 then (if (wrap64 ((l0.length : Int) - t163)) < 2 then (some (0, 0, 0, ([] : List Int), 10)) else (if 0 ≤ t163 then (if t163 < (l0.length : Int) then (if 0 ≤ (wrap64 (t163 + 1)) then (if (wrap64 (t163 + 1)) < (l0.length : Int) then (if 0 ≤ (wrap64 (t163 + 2)) then (if (wrap64 (t163 + 2)) ≤ (l0.length : Int) then ((slices_Clone_byte_byte.f (l0.drop ((wrap64 (t163 + 2)) : Int).toNat)).bind fun t168 => ((frag_Right.f k t162 (wrap64 (rd l0 t163)) (wrap64 (rd l0 (wrap64 (t163 + 1)))) t168).bind fun t172 => (if t172 = true then (some (t162, wrap64 (rd l0 t163), wrap64 (rd l0 (wrap64 (t163 + 1))), t168, 0)) else (some (0, 0, 0, ([] : List Int), 3))))) else (none)) else (none)) else (none)) else (none)) else (none)) else (none))) else (some (0, 0, 0, ([] : List Int), t164))) = some (r1, r2, r3, r4, r5) := H
 have A2 := Aside0.mk A20
 clear A20
 by_cases c3 : t164 = 0
 ·rw [if_pos c3] at H
  have c3b0 : (t164 == 0) = true := beq_iff_eq.mpr c3
  have c3b1 : (t164 != 0) = false := bne_eq_false_iff_eq.mpr c3
  clear c3
  by_cases c4 : (wrap64 ((l0.length : Int) - t163)) < 2
  ·rw [if_pos c4] at H
   have c4b0 : decide ((wrap64 ((l0.length : Int) - t163)) < 2) = true := decide_eq_true c4
   clear c4
   simp only [Option.some.injEq, Prod.mk.injEq] at H
   obtain ⟨rfl, rfl, rfl, rfl, rfl⟩ := H
   go_enter Tryz.func21, Tryz.ntmps21
   go_wp2_with (first | ((with_reducible refine gate_dst (N := 2) rfl ?_); refine box_event ?hg (N := 2) ?hd (cs := #[.int .u64 0, .int .i64 0, .int .i64 0, .slice none 0 0]) (t := 60) ?hr ?_; (case hd => rfl); (case hg => rfl); (case hr => first | (go_simp; done) | (go_simp; rfl)); intro gb161 hg w5 hbox hb; have n0_ := Aside0.mk (below_step (by repeat (first | (with_reducible first | exact HB.out | apply below_alloc | apply pw_below_drewN | apply below_drew1) | exact HB.out)) hb); have n1_ := Aside0.mk (hbox); have n2_ := Aside0.mk ((by rw [hg]; exact (below_size (by repeat (first | (with_reducible first | exact HB.out | apply below_alloc | apply pw_below_drewN | apply below_drew1) | exact HB.out))) : w.heap.size ≤ gb161)); have n3_ := Aside0.mk ((by rw [hg]; exact (below_size (by repeat (first | (with_reducible first | exact HB.out | apply below_alloc | apply pw_below_drewN | apply below_drew1) | exact HB.out))) : w.heap.size ≤ gb161)); clear HB; have HB := n0_; have BK161 := n1_; have GW161 := n2_; have GE161 := n3_; clear n0_ n1_ n2_ n3_; clear hb hbox hg) | ((with_reducible refine gate_callee (f := 40) rfl ?_); refine goesL_ (some 10) rfl rfl Tryz.func40 (by kernel_rfl) rfl #[.slice A0 l0.length c0, .int .i64 0] rfl (by (try simp only [List.map_toArray, List.map_cons, List.map_nil]); first | done | rfl | (simp only [List.length_drop, List.length_take]; rfl)) ?_; (with_reducible refine (vint_Get.calls _ _ l0 0 t162 t163 t164 _ ?side1 ?side2 A2.out).mono ?_); (case side1 => repeat (first | exact (Kd.C_below HR0.out HB.out) | (with_reducible refine Kd.C_alloc ?_ _) | (with_reducible refine Kd.C_drewN ?_ _) | (with_reducible refine Kd.C_drew ?_))); (case side2 => exact HC0.out); rintro e w6 ⟨rfl, hb⟩; refine ⟨_, rfl, ?_⟩; have n0_ := Aside0.mk (blk_below (g := gb161) (o := .cells #[.int .u64 0, .int .i64 0, .int .i64 0, .slice none 0 0] 60 (0, 0)) (by (with_reducible repeat (first | refine blk_drewN ?_ _ | refine blk_drew ?_ | refine blk_alloc ?_ _)); exact BK161.out) hb); have n1_ := Aside0.mk (below_step (by repeat (first | (with_reducible first | exact HB.out | apply below_alloc | apply pw_below_drewN | apply below_drew1 | refine below_set ?_ GE161.out) | exact HB.out)) hb); clear BK161; clear HB; have BK161 := n0_; have HB := n1_; clear n0_ n1_; (try clear hb); (try clear hb2); (try clear hk); (try clear hi); have hcz7_0 : w6.cell? ⟨gb161, 0, none⟩ = some (.int .u64 0) := (blk_cell BK161.out 0).trans rfl; have hcz7_1 : w6.cell? ⟨gb161, 1, none⟩ = some (.int .i64 0) := (blk_cell BK161.out 1).trans rfl; have hcz7_2 : w6.cell? ⟨gb161, 2, none⟩ = some (.int .i64 0) := (blk_cell BK161.out 2).trans rfl; have hcz7_3 : w6.cell? ⟨gb161, 3, none⟩ = some (.slice none 0 0) := (blk_cell BK161.out 3).trans rfl; have hfz7_0 := blk_frozen BK161.out 0; have hfz7_1 := blk_frozen BK161.out 1; have hfz7_2 := blk_frozen BK161.out 2; have hfz7_3 := blk_frozen BK161.out 3))
   refine bodyPost_ret (results_ct rfl _ _ gb161 60 #[.int .u64 0, .int .i64 0, .int .i64 0, .slice none 0 0] (0, 0) _ rfl (by (with_reducible repeat (first | refine blk_drewN ?_ _ | refine blk_drew ?_ | refine blk_alloc ?_ _)); refine blk_put (cs := #[.int .u64 0, .int .i64 0, .int .i64 0, .slice none 0 0]) ?_ 3 _ rfl; (with_reducible repeat (first | refine blk_drewN ?_ _ | refine blk_drew ?_ | refine blk_alloc ?_ _)); refine blk_put (cs := #[.int .u64 0, .int .i64 0, .int .i64 0, .slice none 0 0]) ?_ 2 _ rfl; (with_reducible repeat (first | refine blk_drewN ?_ _ | refine blk_drew ?_ | refine blk_alloc ?_ _)); refine blk_put (cs := #[.int .u64 0, .int .i64 0, .int .i64 0, .slice none 0 0]) ?_ 1 _ rfl; (with_reducible repeat (first | refine blk_drewN ?_ _ | refine blk_drew ?_ | refine blk_alloc ?_ _)); refine blk_put (cs := #[.int .u64 0, .int .i64 0, .int .i64 0, .slice none 0 0]) ?_ 0 _ rfl; (with_reducible repeat (first | refine blk_drewN ?_ _ | refine blk_drew ?_ | refine blk_alloc ?_ _)); exact BK161.out) Tryz.underlying60 rfl (by kernel_rfl)) rfl ?_
   exact ⟨_, by first | rfl | (simp [] <;> rfl) | (simp [*] <;> rfl), by first | exact Kd.R_nil _ _ _ _ _ | exact Kd.N_nil _ _ _ _ _ | exact Kd.V_nil _ _ _ _ _ | exact Kd.Q_nil _ _ _ _ _ | exact Kd.S_nil _ _ _ _ _, by repeat (first | (with_reducible first | exact HB.out | apply below_alloc | apply pw_below_drewN | apply below_drew1 | refine below_set ?_ GE161.out) | exact HB.out)⟩
  ·rw [if_neg c4] at H
   have c4b0 : decide ((wrap64 ((l0.length : Int) - t163)) < 2) = false := decide_eq_false c4
   clear c4
   by_cases c8 : 0 ≤ t163
   ·rw [if_pos c8] at H
    have c8b0 : decide (0 ≤ t163) = true := decide_eq_true c8
    clear c8
    by_cases c9 : t163 < (l0.length : Int)
    ·rw [if_pos c9] at H
     have c9b0 : decide (t163 < (l0.length : Int)) = true := decide_eq_true c9
     clear c9
     obtain ⟨ji10, hji10⟩ : ∃ j_ : Int, (wrap64 (t163 + 1)) = j_ := ⟨_, rfl⟩
     replace H : (if 0 ≤ (ji10) then (if (ji10) < (l0.length : Int) then (if 0 ≤ (wrap64 (t163 + 2)) then (if (wrap64 (t163 + 2)) ≤ (l0.length : Int) then ((slices_Clone_byte_byte.f (l0.drop ((wrap64 (t163 + 2)) : Int).toNat)).bind fun t168 => ((frag_Right.f k t162 (wrap64 (rd l0 t163)) (wrap64 (rd l0 (ji10))) t168).bind fun t172 => (if t172 = true then (some (t162, wrap64 (rd l0 t163), wrap64 (rd l0 (ji10)), t168, 0)) else (some (0, 0, 0, ([] : List Int), 3))))) else (none)) else (none)) else (none)) else (none)) = some (r1, r2, r3, r4, r5) := by first | (rw [hji10] at H; exact H) | (simp only [hji10] at H ⊢; exact H)
     (try rw [hji10] at A2)
     have hji10w : (IntKind.i64.wrap (t163 + 1)) = ji10 := (i64_w _).trans hji10
     by_cases c11 : 0 ≤ (ji10)
     ·rw [if_pos c11] at H
      have c11b0 : decide (0 ≤ (ji10)) = true := decide_eq_true c11
      clear c11
      by_cases c12 : (ji10) < (l0.length : Int)
      ·rw [if_pos c12] at H
       have c12b0 : decide ((ji10) < (l0.length : Int)) = true := decide_eq_true c12
       clear c12
       obtain ⟨ji13, hji13⟩ : ∃ j_ : Int, (wrap64 (t163 + 2)) = j_ := ⟨_, rfl⟩
       replace H : (if 0 ≤ (ji13) then (if (ji13) ≤ (l0.length : Int) then ((slices_Clone_byte_byte.f (l0.drop ((ji13) : Int).toNat)).bind fun t168 => ((frag_Right.f k t162 (wrap64 (rd l0 t163)) (wrap64 (rd l0 (ji10))) t168).bind fun t172 => (if t172 = true then (some (t162, wrap64 (rd l0 t163), wrap64 (rd l0 (ji10)), t168, 0)) else (some (0, 0, 0, ([] : List Int), 3))))) else (none)) else (none)) = some (r1, r2, r3, r4, r5) := by first | (rw [hji13] at H; exact H) | (simp only [hji13] at H ⊢; exact H)
       (try rw [hji13] at A2)
       have hji13w : (IntKind.i64.wrap (t163 + 2)) = ji13 := (i64_w _).trans hji13
       by_cases c14 : 0 ≤ (ji13)
       ·rw [if_pos c14] at H
        have c14b0 := eq_true c14
        have c14b1 : decide (0 ≤ (ji13)) = true := decide_eq_true c14
        clear c14
        by_cases c15 : (ji13) ≤ (l0.length : Int)
        ·rw [if_pos c15] at H
         have c15b0 := eq_true c15
         have c15b1 : decide ((ji13) ≤ (l0.length : Int)) = true := decide_eq_true c15
         clear c15
         replace H := Option.bind_eq_some_iff.mp H
         obtain ⟨t168, A160, H⟩ := H
         replace H : ((frag_Right.f k t162 (wrap64 (rd l0 t163)) (wrap64 (rd l0 (ji10))) t168).bind fun t172 => (if t172 = true then (some (t162, wrap64 (rd l0 t163), wrap64 (rd l0 (ji10)), t168, 0)) else (some (0, 0, 0, ([] : List Int), 3)))) = some (r1, r2, r3, r4, r5) := H
         have A16 := Aside0.mk A160
         clear A160
         replace H := Option.bind_eq_some_iff.mp H
         obtain ⟨t172, A170, H⟩ := H
         replace H : (if t172 = true then (some (t162, wrap64 (rd l0 t163), wrap64 (rd l0 (ji10)), t168, 0)) else (some (0, 0, 0, ([] : List Int), 3))) = some (r1, r2, r3, r4, r5) := H
         have A17 := Aside0.mk A170
         clear A170
         by_cases c18 : t172 = true
         ·subst c18
          have H1 : (some (t162, wrap64 (rd l0 t163), wrap64 (rd l0 (ji10)), t168, 0)) = some (r1, r2, r3, r4, r5) := by rw [if_pos rfl] at H; exact H
          clear H
          have H := H1
          clear H1
          simp only [Option.some.injEq, Prod.mk.injEq] at H
          obtain ⟨rfl, rfl, rfl, rfl, rfl⟩ := H
          go_enter Tryz.func21, Tryz.ntmps21
          try go_wp2_with (first | ((with_reducible refine gate_dst (N := 2) rfl ?_); refine box_event ?hg (N := 2) ?hd (cs := #[.int .u64 0, .int .i64 0, .int .i64 0, .slice none 0 0]) (t := 60) ?hr ?_; (case hd => rfl); (case hg => rfl); (case hr => first | (go_simp; done) | (go_simp; rfl)); intro gb161 hg w19 hbox hb; have n0_ := Aside0.mk (below_step (by repeat (first | (with_reducible first | exact HB.out | apply below_alloc | apply pw_below_drewN | apply below_drew1) | exact HB.out)) hb); have n1_ := Aside0.mk (hbox); have n2_ := Aside0.mk ((by rw [hg]; exact (below_size (by repeat (first | (with_reducible first | exact HB.out | apply below_alloc | apply pw_below_drewN | apply below_drew1) | exact HB.out))) : w.heap.size ≤ gb161)); have n3_ := Aside0.mk ((by rw [hg]; exact (below_size (by repeat (first | (with_reducible first | exact HB.out | apply below_alloc | apply pw_below_drewN | apply below_drew1) | exact HB.out))) : w.heap.size ≤ gb161)); clear HB; have HB := n0_; have BK161 := n1_; have GW161 := n2_; have GE161 := n3_; clear n0_ n1_ n2_ n3_; clear hb hbox hg) | ((with_reducible refine gate_callee (f := 40) rfl ?_); refine goesL_ (some 10) rfl rfl Tryz.func40 (by kernel_rfl) rfl #[.slice A0 l0.length c0, .int .i64 0] rfl (by (try simp only [List.map_toArray, List.map_cons, List.map_nil]); first | done | rfl | (simp only [List.length_drop, List.length_take]; rfl)) ?_; (with_reducible refine (vint_Get.calls _ _ l0 0 t162 t163 t164 _ ?side1 ?side2 A2.out).mono ?_); (case side1 => repeat (first | exact (Kd.C_below HR0.out HB.out) | (with_reducible refine Kd.C_alloc ?_ _) | (with_reducible refine Kd.C_drewN ?_ _) | (with_reducible refine Kd.C_drew ?_))); (case side2 => exact HC0.out); rintro e w20 ⟨rfl, hb⟩; refine ⟨_, rfl, ?_⟩; have n0_ := Aside0.mk (blk_below (g := gb161) (o := .cells #[.int .u64 0, .int .i64 0, .int .i64 0, .slice none 0 0] 60 (0, 0)) (by (with_reducible repeat (first | refine blk_drewN ?_ _ | refine blk_drew ?_ | refine blk_alloc ?_ _)); exact BK161.out) hb); have n1_ := Aside0.mk (below_step (by repeat (first | (with_reducible first | exact HB.out | apply below_alloc | apply pw_below_drewN | apply below_drew1 | refine below_set ?_ GE161.out) | exact HB.out)) hb); clear BK161; clear HB; have BK161 := n0_; have HB := n1_; clear n0_ n1_; (try clear hb); (try clear hb2); (try clear hk); (try clear hi)))
          have n0_ := Aside0.mk (blk_drew BK161.out)
          have n1_ := Aside0.mk (below_drew1 HB.out)
          clear BK161
          clear HB
          have BK161 := n0_
          have HB := n1_
          clear n0_ n1_
          have p165 : 0 ≤ (t163 : Int) := of_decide_eq_true (by first | (with_reducible assumption) | assumption)
          have q165 : t163 < (l0.length : Int) := of_decide_eq_true (by first | (with_reducible assumption) | assumption)
          obtain ⟨ad165, e165, hx165_0⟩ := Kd.at_int HR0.out t163 p165 q165
          have hw165_0 := hx165_0
          cases e165
          replace hx165_0 := (HB.out.cell (World.block_lt_of_cell? w _ hx165_0)).trans hx165_0
          replace p165 := eq_true p165
          replace q165 := eq_true q165
          have p166 : 0 ≤ ((ji10) : Int) := of_decide_eq_true (by first | (with_reducible assumption) | assumption)
          have q166 : (ji10) < (l0.length : Int) := of_decide_eq_true (by first | (with_reducible assumption) | assumption)
          obtain ⟨ad166, e166, hx166_0⟩ := Kd.at_int HR0.out (ji10) p166 q166
          have hw166_0 := hx166_0
          obtain rfl : ad165 = ad166 := (by injection e166)
          replace hx166_0 := (HB.out.cell (World.block_lt_of_cell? w _ hx166_0)).trans hx166_0
          replace p166 := eq_true p166
          replace q166 := eq_true q166
          obtain ⟨i022, hi022, _, hsz22, _⟩ := info_parts info5
          obtain ⟨A22, hcut22, hA22, hC22⟩ := print_drop_of (P := Tryz.prog) (Value.int .u8) 0 22 5 .i64 Tryz.underlying22 hi022 hsz22 (some ad165) c0 l0 (ji13) (of_decide_eq_true (by first | (with_reducible assumption) | assumption)) (of_decide_eq_true (by first | (with_reducible assumption) | assumption)) HC0.out
          have HR167 := Aside0.mk (Kd.C_of_reads (h1 := fun _ => rfl) (hA22 _ (Kd.reads_of_C HR0.out)))
          have HC167 := Aside0.mk hC22
          clear hA22 hC22 hi022 hsz22
          refine start_ (n := 20) (S := fun w' => w'.cell? (ad165.add (t163).toNat) = some (.int .u8 (rd l0 t163)) ∧ w'.cell? (ad165.add ((ji10)).toNat) = some (.int .u8 (rd l0 (ji10)))) (ds := []) #[false, false, false, false, false, false, false, false, false, false, false, false, false, false, false, false, false, false, false, false] (by kernel_rfl) rfl rfl ⟨((HB.out.cell (World.block_lt_of_cell? w _ hw165_0)).trans hw165_0), ((HB.out.cell (World.block_lt_of_cell? w _ hw166_0)).trans hw166_0)⟩ (fun hHeld => ?_); refine with_tabW frag_Read.tab6 frag_Read.bits6 (fun HT_ HW_ => ?_)
          generalize w20.drew = w21 at BK161 HB HR167 hx165_0 hx166_0 hHeld ⊢
          refine pure_ (i := 0) (N := some 26) (v := ?_) (a' := ?_) #[true, false, false, false, false, false, false, false, false, false, false, false, false, false, false, false, false, false, false, false] rfl rfl (any_of HT_.out (by kernel_rfl)) (fun _ _ _ h => h) (Or.inl ⟨by rfl, ?_⟩) ?_ ?_
          rotate_left
          ·intro w'
           go_simp
           with_reducible rfl
          rotate_left
          ·simp only [Act.put, List.setIfInBounds_toArray, List.set_cons_zero, List.set_cons_succ, i64_w, i32_w]
           rfl
          refine pure_ (i := 1) (N := some 27) (v := ?_) (a' := ?_) #[true, true, false, false, false, false, false, false, false, false, false, false, false, false, false, false, false, false, false, false] rfl rfl (any_of HT_.out (by kernel_rfl)) (fun _ _ _ h => h) (Or.inl ⟨by rfl, ?_⟩) ?_ ?_
          rotate_left
          ·intro w'
           go_simp
           with_reducible rfl
          rotate_left
          ·simp only [Act.put, List.setIfInBounds_toArray, List.set_cons_zero, List.set_cons_succ, i64_w, i32_w]
           rfl
          refine pure_ (i := 2) (N := some 28) (v := ?_) (a' := ?_) #[true, true, true, false, false, false, false, false, false, false, false, false, false, false, false, false, false, false, false, false] rfl rfl (any_of HT_.out (by kernel_rfl)) (fun _ _ _ h => h) (Or.inl ⟨by rfl, ?_⟩) ?_ ?_
          rotate_left
          ·intro w'
           go_simp
           with_reducible rfl
          rotate_left
          ·simp only [Act.put, List.setIfInBounds_toArray, List.set_cons_zero, List.set_cons_succ, i64_w, i32_w]
           rfl
          refine pure_ (i := 3) (N := some 29) (v := ?_) (a' := ?_) #[true, true, true, true, false, false, false, false, false, false, false, false, false, false, false, false, false, false, false, false] rfl rfl (any_of HT_.out (by kernel_rfl)) (fun _ _ _ h => h) (Or.inl ⟨by rfl, ?_⟩) ?_ ?_
          rotate_left
          ·intro w'
           go_simp
           with_reducible rfl
          rotate_left
          ·simp only [Act.put, List.setIfInBounds_toArray, List.set_cons_zero, List.set_cons_succ, i64_w, i32_w]
           rfl
          refine pure_ (i := 6) (N := some 32) (v := ?_) (a' := ?_) #[true, true, true, true, false, false, true, false, false, false, false, false, false, false, false, false, false, false, false, false] rfl rfl (any_of HT_.out (by kernel_rfl)) (fun _ _ _ h => h) (Or.inl ⟨by rfl, ?_⟩) ?_ ?_
          rotate_left
          ·intro w'
           go_simp
           with_reducible rfl
          rotate_left
          ·simp only [Act.put, List.setIfInBounds_toArray, List.set_cons_zero, List.set_cons_succ, i64_w, i32_w]
           rfl
          refine pure_ (i := 7) (N := some 33) (v := ?_) (a' := ?_) #[true, true, true, true, false, false, true, true, false, false, false, false, false, false, false, false, false, false, false, false] rfl rfl (any_of HT_.out (by kernel_rfl)) (fun _ _ _ h => h) (Or.inl ⟨by rfl, ?_⟩) ?_ ?_
          rotate_left
          ·intro w'
           go_simp
           with_reducible rfl
          rotate_left
          ·simp only [Act.put, List.setIfInBounds_toArray, List.set_cons_zero, List.set_cons_succ, i64_w, i32_w]
           rfl
          refine pure_ (i := 8) (N := some 34) (v := ?_) (a' := ?_) #[true, true, true, true, false, false, true, true, true, false, false, false, false, false, false, false, false, false, false, false] rfl rfl (any_of HT_.out (by kernel_rfl)) (fun _ _ _ h => h) (Or.inl ⟨by rfl, ?_⟩) ?_ ?_
          rotate_left
          ·intro w'
           go_simp
           with_reducible rfl
          rotate_left
          ·simp only [Act.put, List.setIfInBounds_toArray, List.set_cons_zero, List.set_cons_succ, i64_w, i32_w]
           rfl
          refine pure_ (i := 9) (N := some 35) (v := ?_) (a' := ?_) #[true, true, true, true, false, false, true, true, true, true, false, false, false, false, false, false, false, false, false, false] rfl rfl (any_of HT_.out (by kernel_rfl)) (fun _ _ _ h => h) (Or.inl ⟨by rfl, ?_⟩) ?_ ?_
          rotate_left
          ·intro w'
           go_simp
           with_reducible rfl
          rotate_left
          ·simp only [Act.put, List.setIfInBounds_toArray, List.set_cons_zero, List.set_cons_succ, i64_w, i32_w]
           rfl
          refine pure_ (i := 12) (N := some 38) (v := ?_) (a' := ?_) #[true, true, true, true, false, false, true, true, true, true, false, false, true, false, false, false, false, false, false, false] rfl rfl (any_of HT_.out (by kernel_rfl)) (fun _ _ _ h => h) (Or.inl ⟨by rfl, ?_⟩) ?_ ?_
          rotate_left
          ·intro w'
           go_simp
           with_reducible rfl
          rotate_left
          ·simp only [Act.put, List.setIfInBounds_toArray, List.set_cons_zero, List.set_cons_succ, i64_w, i32_w]
           rfl
          refine pure_ (i := 13) (N := some 39) (v := ?_) (a' := ?_) #[true, true, true, true, false, false, true, true, true, true, false, false, true, true, false, false, false, false, false, false] rfl rfl (any_of HT_.out (by kernel_rfl)) (fun _ _ _ h => h) (Or.inl ⟨by rfl, ?_⟩) ?_ ?_
          rotate_left
          ·intro w'
           go_simp
           with_reducible rfl
          rotate_left
          ·simp only [Act.put, List.setIfInBounds_toArray, List.set_cons_zero, List.set_cons_succ, i64_w, i32_w]
           rfl
          refine pure_ (i := 14) (N := some 40) (v := ?_) (a' := ?_) #[true, true, true, true, false, false, true, true, true, true, false, false, true, true, true, false, false, false, false, false] rfl rfl (any_of HT_.out (by kernel_rfl)) (fun _ _ _ h => h) (Or.inl ⟨by rfl, ?_⟩) ?_ ?_
          rotate_left
          ·intro w'
           go_simp
           with_reducible rfl
          rotate_left
          ·simp only [Act.put, List.setIfInBounds_toArray, List.set_cons_zero, List.set_cons_succ, i64_w, i32_w]
           rfl
          refine pure_ (i := 15) (N := some 41) (v := ?_) (a' := ?_) #[true, true, true, true, false, false, true, true, true, true, false, false, true, true, true, true, false, false, false, false] rfl rfl (any_of HT_.out (by kernel_rfl)) (fun _ _ _ h => h) (Or.inl ⟨by rfl, ?_⟩) ?_ ?_
          rotate_left
          ·intro w'
           go_simp
           with_reducible rfl
          rotate_left
          ·simp only [Act.put, List.setIfInBounds_toArray, List.set_cons_zero, List.set_cons_succ, i64_w, i32_w]
           rfl
          refine take_ (i := 4) (N := some 30) (v := ?_) (a' := ?_) #[true, true, true, true, true, false, true, true, true, true, false, false, true, true, true, true, false, false, false, false] rfl rfl (take_ofW HT_.out HW_.out (by kernel_rfl)) (fun _ _ _ h => h) (Or.inl ⟨by rfl, ?_⟩) hHeld ?_ ?_
          rotate_left
          ·rintro w' ⟨s0, s1⟩
           go_simp
           with_reducible rfl
          rotate_left
          ·simp only [Act.put, List.setIfInBounds_toArray, List.set_cons_zero, List.set_cons_succ, i64_w, i32_w]
           rfl
          refine pure_ (i := 5) (N := some 31) (v := ?_) (a' := ?_) #[true, true, true, true, true, true, true, true, true, true, false, false, true, true, true, true, false, false, false, false] rfl rfl (any_of HT_.out (by kernel_rfl)) (fun _ _ _ h => h) (Or.inl ⟨by rfl, ?_⟩) ?_ ?_
          rotate_left
          ·intro w'
           go_simp
           with_reducible rfl
          rotate_left
          ·simp only [Act.put, List.setIfInBounds_toArray, List.set_cons_zero, List.set_cons_succ, i64_w, i32_w]
           rfl
          refine take_ (i := 10) (N := some 36) (v := ?_) (a' := ?_) #[true, true, true, true, true, true, true, true, true, true, true, false, true, true, true, true, false, false, false, false] rfl rfl (take_ofW HT_.out HW_.out (by kernel_rfl)) (fun _ _ _ h => h) (Or.inl ⟨by rfl, ?_⟩) hHeld ?_ ?_
          rotate_left
          ·rintro w' ⟨s0, s1⟩
           go_simp
           with_reducible rfl
          rotate_left
          ·simp only [Act.put, List.setIfInBounds_toArray, List.set_cons_zero, List.set_cons_succ, i64_w, i32_w]
           rfl
          refine pure_ (i := 11) (N := some 37) (v := ?_) (a' := ?_) #[true, true, true, true, true, true, true, true, true, true, true, true, true, true, true, true, false, false, false, false] rfl rfl (any_of HT_.out (by kernel_rfl)) (fun _ _ _ h => h) (Or.inl ⟨by rfl, ?_⟩) ?_ ?_
          rotate_left
          ·intro w'
           go_simp
           with_reducible rfl
          rotate_left
          ·simp only [Act.put, List.setIfInBounds_toArray, List.set_cons_zero, List.set_cons_succ, i64_w, i32_w]
           rfl
          refine join_ (σ := Value × Nat) 1 #[true, true, true, true, true, true, true, true, true, true, true, true, true, true, true, true, true, true, true, false] (fun s_ => [(42, s_.1), (7, .pointer (some ⟨s_.2, 0, none⟩)), (43, .agg #[.int .u64 t162, .int .i64 (wrap64 (rd l0 t163)), .int .i64 (wrap64 (rd l0 (ji10))), s_.1])]) (fun s_ w' => (w'.cell? (ad165.add (t163).toNat) = some (.int .u8 (rd l0 t163)) ∧ w'.cell? (ad165.add ((ji10)).toNat) = some (.int .u8 (rd l0 (ji10)))) ∧ (Kd.R (Kd.int .u8) 5 w' w.heap.size (fun _ => True) s_.1 t168) ∧ (w'.heap[gb161]? = some (.cells #[.int .u64 0, .int .i64 0, .int .i64 0, .slice none 0 0] 60 (0, 0))) ∧ (w'.heap[s_.2]? = some (.cells #[.int .u64 0, .int .i64 0, .int .i64 0, .slice none 0 0] 60 (0, 0))) ∧ (w.heap.size ≤ s_.2) ∧ (w.heap.size ≤ s_.2) ∧ (gb161 ≠ s_.2) ∧ (s_.2 ≠ gb161) ∧ (Below w.heap.size w w')) ?_ ?_
          rotate_left
          ·intro hCont
           refine two_ (i := 16) (j := 18) (Ni := some 42) (Nj := some 7) #[true, true, true, true, true, true, true, true, true, true, true, true, true, true, true, true, true, false, false, false] #[true, true, true, true, true, true, true, true, true, true, true, true, true, true, true, true, false, false, true, false] rfl rfl rfl rfl (two_of HT_.out (by kernel_rfl)) (by decide) (by decide) (fun K hK => ?_) (fun K hK => ?_)
           ·skip
            refine goes_ Tryz.func29 (by kernel_rfl) rfl #[.slice A22 (l0.drop ((ji13) : Int).toNat).length (c0 - (ji13).toNat)] (by rfl) rfl rfl (by (try simp only [List.map_toArray, List.map_cons, List.map_nil]); first | done | (rw [show (l0.drop ((ji13) : Int).toNat).length = (l0.length - (ji13).toNat) from List.length_drop] <;> rfl) | (simp only [hji13]; rfl) | rfl | (simp only [List.length_drop, List.length_take]; rfl)) ?_
            with_reducible refine (slices_Clone_byte_byte.calls _ _ (l0.drop ((ji13) : Int).toNat) t168 _ ?side1 ?side2 A16.out).mono ?_
            (case side1 => repeat (first | exact (Kd.C_below HR167.out HB.out) | (with_reducible refine Kd.C_alloc ?_ _) | (with_reducible refine Kd.C_drewN ?_ _) | (with_reducible refine Kd.C_drew ?_)))
            (case side2 => exact HC167.out)
            rintro e w23 ⟨v169, rfl, ho0, hb⟩
            refine ⟨_, rfl, ?_⟩
            have n0_ := Aside0.mk (Kd.R_lower ho0 (below_size (by repeat (first | (with_reducible first | exact HB.out | apply below_alloc | apply pw_below_drewN | apply below_drew1 | refine below_set ?_ GE161.out) | exact HB.out))))
            have n1_ := Aside0.mk (blk_below (g := gb161) (o := .cells #[.int .u64 0, .int .i64 0, .int .i64 0, .slice none 0 0] 60 (0, 0)) (by (with_reducible repeat (first | refine blk_drewN ?_ _ | refine blk_drew ?_ | refine blk_alloc ?_ _)); exact BK161.out) hb)
            have n2_ := Aside0.mk (below_step (by repeat (first | (with_reducible first | exact HB.out | apply below_alloc | apply pw_below_drewN | apply below_drew1 | refine below_set ?_ GE161.out) | exact HB.out)) hb)
            clear BK161
            clear HB
            have HO170 := n0_
            have BK161 := n1_
            have HB := n2_
            clear n0_ n1_ n2_
            (try clear hb)
            (try clear hb2)
            (try clear hk)
            (try clear hi)
            (try clear ho0)
            obtain ⟨Ao24, co24, eo24⟩ := Kd.R_slice HO170.out
            (first | subst eo24 | (injection eo24 with f1_ f2_ f3_; have f4_ := f1_.symm; have f5_ := f3_.symm; clear f1_ f2_ f3_; subst f4_; subst f5_))
            refine hK.out _ _ ⟨((HB.out.cell (World.block_lt_of_cell? w _ hw165_0)).trans hw165_0), ((HB.out.cell (World.block_lt_of_cell? w _ hw166_0)).trans hw166_0)⟩ (fun hHeld => ?_)
            clear hK K
            refine norm_ (a' := ?_) ?_ ?_
            rotate_left
            ·show Act.put _ (some 42) _ = _
             simp only [Act.put, List.setIfInBounds_toArray, List.set_cons_zero, List.set_cons_succ, i64_w, i32_w]
             rfl
            refine pure_ (i := 17) (N := some 43) (v := ?_) (a' := ?_) #[true, true, true, true, true, true, true, true, true, true, true, true, true, true, true, true, true, true, false, false] rfl rfl (any_of HT_.out (by kernel_rfl)) (fun _ _ _ h => h) (Or.inl ⟨by rfl, ?_⟩) ?_ ?_
            rotate_left
            ·intro w'
             go_simp
             with_reducible rfl
            rotate_left
            ·simp only [Act.put, List.setIfInBounds_toArray, List.set_cons_zero, List.set_cons_succ, i64_w, i32_w]
             rfl
            refine one_ (i := 18) (N := some 7) #[true, true, true, true, true, true, true, true, true, true, true, true, true, true, true, true, true, true, true, false] rfl rfl (one_of HT_.out (by kernel_rfl)) (by decide) (fun K hK => ?_)
            refine box_step ?hg (N := 7) ?hd (cs := #[.int .u64 0, .int .i64 0, .int .i64 0, .slice none 0 0]) (t := 60) ?hr ?_; (case hd => rfl); (case hg => rfl); (case hr => first | (go_simp; done) | (go_simp; rfl))
            intro gb171 hg w25 hbox hb
            have n0_ := Aside0.mk (Kd.R_below (by (with_reducible repeat (first | apply Kd.R_alloc | apply Kd.R_drewN | apply Kd.R_drew)); exact HO170.out) hb)
            have n1_ := Aside0.mk (blk_below (g := gb161) (o := .cells #[.int .u64 0, .int .i64 0, .int .i64 0, .slice none 0 0] 60 (0, 0)) (by (with_reducible repeat (first | refine blk_drewN ?_ _ | refine blk_drew ?_ | refine blk_alloc ?_ _)); exact BK161.out) hb)
            have n2_ := Aside0.mk (below_step (by repeat (first | (with_reducible first | exact HB.out | apply below_alloc | apply pw_below_drewN | apply below_drew1 | refine below_set ?_ GE161.out) | exact HB.out)) hb)
            have n3_ := Aside0.mk (hbox)
            have n4_ := Aside0.mk ((by rw [hg]; exact (below_size (by repeat (first | (with_reducible first | exact HB.out | apply below_alloc | apply pw_below_drewN | apply below_drew1 | refine below_set ?_ GE161.out) | exact HB.out))) : w.heap.size ≤ gb171))
            have n5_ := Aside0.mk ((by rw [hg]; exact (below_size (by repeat (first | (with_reducible first | exact HB.out | apply below_alloc | apply pw_below_drewN | apply below_drew1 | refine below_set ?_ GE161.out) | exact HB.out))) : w.heap.size ≤ gb171))
            have n6_ := Aside0.mk ((by rw [hg]; exact Nat.ne_of_lt (blk_lt (g := gb161) (o := .cells #[.int .u64 0, .int .i64 0, .int .i64 0, .slice none 0 0] 60 (0, 0)) (by (with_reducible repeat (first | refine blk_drewN ?_ _ | refine blk_drew ?_ | refine blk_alloc ?_ _)); exact BK161.out)) : gb161 ≠ gb171))
            have n7_ := Aside0.mk ((by rw [hg]; exact Nat.ne_of_gt (blk_lt (g := gb161) (o := .cells #[.int .u64 0, .int .i64 0, .int .i64 0, .slice none 0 0] 60 (0, 0)) (by (with_reducible repeat (first | refine blk_drewN ?_ _ | refine blk_drew ?_ | refine blk_alloc ?_ _)); exact BK161.out)) : gb171 ≠ gb161))
            clear HO170
            clear BK161
            clear HB
            have HO170 := n0_
            have BK161 := n1_
            have HB := n2_
            have BK171 := n3_
            have GW171 := n4_
            have GE171 := n5_
            have NB161_171 := n6_
            have NB171_161 := n7_
            clear n0_ n1_ n2_ n3_ n4_ n5_ n6_ n7_
            clear hb hbox hg
            refine hK.out _ _ ⟨((HB.out.cell (World.block_lt_of_cell? w _ hw165_0)).trans hw165_0), ((HB.out.cell (World.block_lt_of_cell? w _ hw166_0)).trans hw166_0)⟩ (fun hHeld => ?_)
            clear hK K
            refine norm_ (a' := ?_) ?_ ?_
            rotate_left
            ·show Act.put _ (some 7) _ = _
             simp only [Act.put, List.setIfInBounds_toArray, List.set_cons_zero, List.set_cons_succ, i64_w, i32_w]
             rfl
            exact norm_ (by simp only [putAll, Act.put, List.setIfInBounds_toArray, List.set_cons_zero, List.set_cons_succ]) (hCont (.slice Ao24 t168.length co24, gb171) _ ⟨hHeld, (by (with_reducible repeat (first | apply Kd.R_alloc | apply Kd.R_drewN | apply Kd.R_drew)); exact HO170.out), (by (with_reducible repeat (first | refine blk_drewN ?_ _ | refine blk_drew ?_ | refine blk_alloc ?_ _)); exact BK161.out), (by (with_reducible repeat (first | refine blk_drewN ?_ _ | refine blk_drew ?_ | refine blk_alloc ?_ _)); exact BK171.out), GW171.out, GE171.out, NB161_171.out, NB171_161.out, (by repeat (first | (with_reducible first | exact HB.out | apply below_alloc | apply pw_below_drewN | apply below_drew1 | refine below_set ?_ GE161.out | refine below_set ?_ GE171.out) | exact HB.out))⟩)
           ·skip
            refine box_step ?hg (N := 7) ?hd (cs := #[.int .u64 0, .int .i64 0, .int .i64 0, .slice none 0 0]) (t := 60) ?hr ?_; (case hd => rfl); (case hg => rfl); (case hr => first | (go_simp; done) | (go_simp; rfl))
            intro gb171 hg w23 hbox hb
            have n0_ := Aside0.mk (blk_below (g := gb161) (o := .cells #[.int .u64 0, .int .i64 0, .int .i64 0, .slice none 0 0] 60 (0, 0)) (by (with_reducible repeat (first | refine blk_drewN ?_ _ | refine blk_drew ?_ | refine blk_alloc ?_ _)); exact BK161.out) hb)
            have n1_ := Aside0.mk (below_step (by repeat (first | (with_reducible first | exact HB.out | apply below_alloc | apply pw_below_drewN | apply below_drew1 | refine below_set ?_ GE161.out) | exact HB.out)) hb)
            have n2_ := Aside0.mk (hbox)
            have n3_ := Aside0.mk ((by rw [hg]; exact (below_size (by repeat (first | (with_reducible first | exact HB.out | apply below_alloc | apply pw_below_drewN | apply below_drew1 | refine below_set ?_ GE161.out) | exact HB.out))) : w.heap.size ≤ gb171))
            have n4_ := Aside0.mk ((by rw [hg]; exact (below_size (by repeat (first | (with_reducible first | exact HB.out | apply below_alloc | apply pw_below_drewN | apply below_drew1 | refine below_set ?_ GE161.out) | exact HB.out))) : w.heap.size ≤ gb171))
            have n5_ := Aside0.mk ((by rw [hg]; exact Nat.ne_of_lt (blk_lt (g := gb161) (o := .cells #[.int .u64 0, .int .i64 0, .int .i64 0, .slice none 0 0] 60 (0, 0)) (by (with_reducible repeat (first | refine blk_drewN ?_ _ | refine blk_drew ?_ | refine blk_alloc ?_ _)); exact BK161.out)) : gb161 ≠ gb171))
            have n6_ := Aside0.mk ((by rw [hg]; exact Nat.ne_of_gt (blk_lt (g := gb161) (o := .cells #[.int .u64 0, .int .i64 0, .int .i64 0, .slice none 0 0] 60 (0, 0)) (by (with_reducible repeat (first | refine blk_drewN ?_ _ | refine blk_drew ?_ | refine blk_alloc ?_ _)); exact BK161.out)) : gb171 ≠ gb161))
            clear BK161
            clear HB
            have BK161 := n0_
            have HB := n1_
            have BK171 := n2_
            have GW171 := n3_
            have GE171 := n4_
            have NB161_171 := n5_
            have NB171_161 := n6_
            clear n0_ n1_ n2_ n3_ n4_ n5_ n6_
            clear hb hbox hg
            refine hK.out _ _ ⟨((HB.out.cell (World.block_lt_of_cell? w _ hw165_0)).trans hw165_0), ((HB.out.cell (World.block_lt_of_cell? w _ hw166_0)).trans hw166_0)⟩ (fun hHeld => ?_)
            clear hK K
            refine norm_ (a' := ?_) ?_ ?_
            rotate_left
            ·show Act.put _ (some 7) _ = _
             simp only [Act.put, List.setIfInBounds_toArray, List.set_cons_zero, List.set_cons_succ, i64_w, i32_w]
             rfl
            refine one_ (i := 16) (N := some 42) #[true, true, true, true, true, true, true, true, true, true, true, true, true, true, true, true, true, false, true, false] rfl rfl (one_of HT_.out (by kernel_rfl)) (by decide) (fun K hK => ?_)
            refine goes_ Tryz.func29 (by kernel_rfl) rfl #[.slice A22 (l0.drop ((ji13) : Int).toNat).length (c0 - (ji13).toNat)] (by rfl) rfl rfl (by (try simp only [List.map_toArray, List.map_cons, List.map_nil]); first | done | (rw [show (l0.drop ((ji13) : Int).toNat).length = (l0.length - (ji13).toNat) from List.length_drop] <;> rfl) | (simp only [hji13]; rfl) | rfl | (simp only [List.length_drop, List.length_take]; rfl)) ?_
            with_reducible refine (slices_Clone_byte_byte.calls _ _ (l0.drop ((ji13) : Int).toNat) t168 _ ?side1 ?side2 A16.out).mono ?_
            (case side1 => repeat (first | exact (Kd.C_below HR167.out HB.out) | (with_reducible refine Kd.C_alloc ?_ _) | (with_reducible refine Kd.C_drewN ?_ _) | (with_reducible refine Kd.C_drew ?_)))
            (case side2 => exact HC167.out)
            rintro e w24 ⟨v169, rfl, ho0, hb⟩
            refine ⟨_, rfl, ?_⟩
            have n0_ := Aside0.mk (Kd.R_lower ho0 (below_size (by repeat (first | (with_reducible first | exact HB.out | apply below_alloc | apply pw_below_drewN | apply below_drew1 | refine below_set ?_ GE161.out | refine below_set ?_ GE171.out) | exact HB.out))))
            have n1_ := Aside0.mk (blk_below (g := gb161) (o := .cells #[.int .u64 0, .int .i64 0, .int .i64 0, .slice none 0 0] 60 (0, 0)) (by (with_reducible repeat (first | refine blk_drewN ?_ _ | refine blk_drew ?_ | refine blk_alloc ?_ _)); exact BK161.out) hb)
            have n2_ := Aside0.mk (blk_below (g := gb171) (o := .cells #[.int .u64 0, .int .i64 0, .int .i64 0, .slice none 0 0] 60 (0, 0)) (by (with_reducible repeat (first | refine blk_drewN ?_ _ | refine blk_drew ?_ | refine blk_alloc ?_ _)); exact BK171.out) hb)
            have n3_ := Aside0.mk (below_step (by repeat (first | (with_reducible first | exact HB.out | apply below_alloc | apply pw_below_drewN | apply below_drew1 | refine below_set ?_ GE161.out | refine below_set ?_ GE171.out) | exact HB.out)) hb)
            clear BK161
            clear BK171
            clear HB
            have HO170 := n0_
            have BK161 := n1_
            have BK171 := n2_
            have HB := n3_
            clear n0_ n1_ n2_ n3_
            (try clear hb)
            (try clear hb2)
            (try clear hk)
            (try clear hi)
            (try clear ho0)
            obtain ⟨Ao25, co25, eo25⟩ := Kd.R_slice HO170.out
            (first | subst eo25 | (injection eo25 with f1_ f2_ f3_; have f4_ := f1_.symm; have f5_ := f3_.symm; clear f1_ f2_ f3_; subst f4_; subst f5_))
            refine hK.out _ _ ⟨((HB.out.cell (World.block_lt_of_cell? w _ hw165_0)).trans hw165_0), ((HB.out.cell (World.block_lt_of_cell? w _ hw166_0)).trans hw166_0)⟩ (fun hHeld => ?_)
            clear hK K
            refine norm_ (a' := ?_) ?_ ?_
            rotate_left
            ·show Act.put _ (some 42) _ = _
             simp only [Act.put, List.setIfInBounds_toArray, List.set_cons_zero, List.set_cons_succ, i64_w, i32_w]
             rfl
            refine pure_ (i := 17) (N := some 43) (v := ?_) (a' := ?_) #[true, true, true, true, true, true, true, true, true, true, true, true, true, true, true, true, true, true, true, false] rfl rfl (any_of HT_.out (by kernel_rfl)) (fun _ _ _ h => h) (Or.inl ⟨by rfl, ?_⟩) ?_ ?_
            rotate_left
            ·intro w'
             go_simp
             with_reducible rfl
            rotate_left
            ·simp only [Act.put, List.setIfInBounds_toArray, List.set_cons_zero, List.set_cons_succ, i64_w, i32_w]
             rfl
            exact norm_ (by simp only [putAll, Act.put, List.setIfInBounds_toArray, List.set_cons_zero, List.set_cons_succ]) (hCont (.slice Ao25 t168.length co25, gb171) _ ⟨hHeld, (by (with_reducible repeat (first | apply Kd.R_alloc | apply Kd.R_drewN | apply Kd.R_drew)); exact HO170.out), (by (with_reducible repeat (first | refine blk_drewN ?_ _ | refine blk_drew ?_ | refine blk_alloc ?_ _)); exact BK161.out), (by (with_reducible repeat (first | refine blk_drewN ?_ _ | refine blk_drew ?_ | refine blk_alloc ?_ _)); exact BK171.out), GW171.out, GE171.out, NB161_171.out, NB171_161.out, (by repeat (first | (with_reducible first | exact HB.out | apply below_alloc | apply pw_below_drewN | apply below_drew1 | refine below_set ?_ GE161.out | refine below_set ?_ GE171.out) | exact HB.out))⟩)
          rintro ⟨v169, gb171⟩ w26 ⟨hS_, h0_, h1_, h2_, h3_, h4_, h5_, h6_, h7_⟩
          have n0_ : Aside0 (Kd.R (Kd.int .u8) 5 w26 w.heap.size (fun _ => True) v169 t168) := ⟨h0_⟩
          have n1_ : Aside0 (w26.heap[gb161]? = some (.cells #[.int .u64 0, .int .i64 0, .int .i64 0, .slice none 0 0] 60 (0, 0))) := ⟨h1_⟩
          have n2_ : Aside0 (w26.heap[gb171]? = some (.cells #[.int .u64 0, .int .i64 0, .int .i64 0, .slice none 0 0] 60 (0, 0))) := ⟨h2_⟩
          have n3_ : Aside0 (w.heap.size ≤ gb171) := ⟨h3_⟩
          have n4_ : Aside0 (w.heap.size ≤ gb171) := ⟨h4_⟩
          have n5_ : Aside0 (gb161 ≠ gb171) := ⟨h5_⟩
          have n6_ : Aside0 (gb171 ≠ gb161) := ⟨h6_⟩
          have n7_ : Aside0 (Below w.heap.size w w26) := ⟨h7_⟩
          clear BK161
          clear HB
          clear h0_ h1_ h2_ h3_ h4_ h5_ h6_ h7_
          have HO170 := n0_
          have BK161 := n1_
          have BK171 := n2_
          have GW171 := n3_
          have GE171 := n4_
          have NB161_171 := n5_
          have NB171_161 := n6_
          have HB := n7_
          clear n0_ n1_ n2_ n3_ n4_ n5_ n6_ n7_
          have hHeld : w26.cell? (ad165.add (t163).toNat) = some (.int .u8 (rd l0 t163)) ∧ w26.cell? (ad165.add ((ji10)).toNat) = some (.int .u8 (rd l0 (ji10))) := hS_
          obtain ⟨Ao27, co27, eo27⟩ := Kd.R_slice HO170.out
          (first | subst eo27 | (injection eo27 with f1_ f2_ f3_; have f4_ := f1_.symm; have f5_ := f3_.symm; clear f1_ f2_ f3_; subst f4_; subst f5_))
          refine norm_ (a' := ?_) ?_ ?_
          rotate_left
          ·simp only [putAll, Act.put, List.setIfInBounds_toArray, List.set_cons_zero, List.set_cons_succ]
           rfl
          refine one_ (i := 19) (N := none) #[true, true, true, true, true, true, true, true, true, true, true, true, true, true, true, true, true, true, true, true] rfl rfl (one_of HT_.out (by kernel_rfl)) (by decide) (fun K hK => ?_)
          have hs28 : w26.cell? ⟨gb171, 0, none⟩ = some (.int .u64 0) := (blk_cell BK171.out 0).trans rfl
          have hfs28 := blk_frozen BK171.out 0
          have hns28_0 := NB161_171.out
          have hms28_0 := NB171_161.out
          have hs29 : w26.cell? ⟨gb171, 1, none⟩ = some (.int .i64 0) := (blk_cell BK171.out 1).trans rfl
          have hfs29 := blk_frozen BK171.out 1
          have hns29_0 := NB161_171.out
          have hms29_0 := NB171_161.out
          have hs30 : w26.cell? ⟨gb171, 2, none⟩ = some (.int .i64 0) := (blk_cell BK171.out 2).trans rfl
          have hfs30 := blk_frozen BK171.out 2
          have hns30_0 := NB161_171.out
          have hms30_0 := NB171_161.out
          have hs31 : w26.cell? ⟨gb171, 3, none⟩ = some (.slice none 0 0) := (blk_cell BK171.out 3).trans rfl
          have hfs31 := blk_frozen BK171.out 3
          have hns31_0 := NB161_171.out
          have hms31_0 := NB171_161.out
          refine skip_ (w1 := ?_) (by rfl) rfl ?_ ?_
          rotate_left
          ·go_simp
           rfl
          refine hK.out _ _ ⟨((cell_far (p := ⟨gb171, _, none⟩) (by first | exact Nat.ne_of_lt (Nat.lt_of_lt_of_le (by have := World.block_lt_of_cell? _ _ hw165_0; first | rwa [add_block] at this | exact this) GW171.out) | (rw [add_block]; exact Nat.ne_of_lt (Nat.lt_of_lt_of_le (by have := World.block_lt_of_cell? _ _ hw165_0; first | rwa [add_block] at this | exact this) GW171.out)) | (show (Addr.add _ _).block ≠ _; rw [add_block]; exact Nat.ne_of_lt (Nat.lt_of_lt_of_le (by have := World.block_lt_of_cell? _ _ hw165_0; first | rwa [add_block] at this | exact this) GW171.out)) | (dsimp only; exact Nat.ne_of_lt (Nat.lt_of_lt_of_le (by have := World.block_lt_of_cell? _ _ hw165_0; first | rwa [add_block] at this | exact this) GW171.out))) _).trans (((cell_far (p := ⟨gb171, _, none⟩) (by first | exact Nat.ne_of_lt (Nat.lt_of_lt_of_le (by have := World.block_lt_of_cell? _ _ hw165_0; first | rwa [add_block] at this | exact this) GW171.out) | (rw [add_block]; exact Nat.ne_of_lt (Nat.lt_of_lt_of_le (by have := World.block_lt_of_cell? _ _ hw165_0; first | rwa [add_block] at this | exact this) GW171.out)) | (show (Addr.add _ _).block ≠ _; rw [add_block]; exact Nat.ne_of_lt (Nat.lt_of_lt_of_le (by have := World.block_lt_of_cell? _ _ hw165_0; first | rwa [add_block] at this | exact this) GW171.out)) | (dsimp only; exact Nat.ne_of_lt (Nat.lt_of_lt_of_le (by have := World.block_lt_of_cell? _ _ hw165_0; first | rwa [add_block] at this | exact this) GW171.out))) _).trans (((cell_far (p := ⟨gb171, _, none⟩) (by first | exact Nat.ne_of_lt (Nat.lt_of_lt_of_le (by have := World.block_lt_of_cell? _ _ hw165_0; first | rwa [add_block] at this | exact this) GW171.out) | (rw [add_block]; exact Nat.ne_of_lt (Nat.lt_of_lt_of_le (by have := World.block_lt_of_cell? _ _ hw165_0; first | rwa [add_block] at this | exact this) GW171.out)) | (show (Addr.add _ _).block ≠ _; rw [add_block]; exact Nat.ne_of_lt (Nat.lt_of_lt_of_le (by have := World.block_lt_of_cell? _ _ hw165_0; first | rwa [add_block] at this | exact this) GW171.out)) | (dsimp only; exact Nat.ne_of_lt (Nat.lt_of_lt_of_le (by have := World.block_lt_of_cell? _ _ hw165_0; first | rwa [add_block] at this | exact this) GW171.out))) _).trans (((cell_far (p := ⟨gb171, _, none⟩) (by first | exact Nat.ne_of_lt (Nat.lt_of_lt_of_le (by have := World.block_lt_of_cell? _ _ hw165_0; first | rwa [add_block] at this | exact this) GW171.out) | (rw [add_block]; exact Nat.ne_of_lt (Nat.lt_of_lt_of_le (by have := World.block_lt_of_cell? _ _ hw165_0; first | rwa [add_block] at this | exact this) GW171.out)) | (show (Addr.add _ _).block ≠ _; rw [add_block]; exact Nat.ne_of_lt (Nat.lt_of_lt_of_le (by have := World.block_lt_of_cell? _ _ hw165_0; first | rwa [add_block] at this | exact this) GW171.out)) | (dsimp only; exact Nat.ne_of_lt (Nat.lt_of_lt_of_le (by have := World.block_lt_of_cell? _ _ hw165_0; first | rwa [add_block] at this | exact this) GW171.out))) _).trans (hHeld.1)))))))), ((cell_far (p := ⟨gb171, _, none⟩) (by first | exact Nat.ne_of_lt (Nat.lt_of_lt_of_le (by have := World.block_lt_of_cell? _ _ hw166_0; first | rwa [add_block] at this | exact this) GW171.out) | (rw [add_block]; exact Nat.ne_of_lt (Nat.lt_of_lt_of_le (by have := World.block_lt_of_cell? _ _ hw166_0; first | rwa [add_block] at this | exact this) GW171.out)) | (show (Addr.add _ _).block ≠ _; rw [add_block]; exact Nat.ne_of_lt (Nat.lt_of_lt_of_le (by have := World.block_lt_of_cell? _ _ hw166_0; first | rwa [add_block] at this | exact this) GW171.out)) | (dsimp only; exact Nat.ne_of_lt (Nat.lt_of_lt_of_le (by have := World.block_lt_of_cell? _ _ hw166_0; first | rwa [add_block] at this | exact this) GW171.out))) _).trans (((cell_far (p := ⟨gb171, _, none⟩) (by first | exact Nat.ne_of_lt (Nat.lt_of_lt_of_le (by have := World.block_lt_of_cell? _ _ hw166_0; first | rwa [add_block] at this | exact this) GW171.out) | (rw [add_block]; exact Nat.ne_of_lt (Nat.lt_of_lt_of_le (by have := World.block_lt_of_cell? _ _ hw166_0; first | rwa [add_block] at this | exact this) GW171.out)) | (show (Addr.add _ _).block ≠ _; rw [add_block]; exact Nat.ne_of_lt (Nat.lt_of_lt_of_le (by have := World.block_lt_of_cell? _ _ hw166_0; first | rwa [add_block] at this | exact this) GW171.out)) | (dsimp only; exact Nat.ne_of_lt (Nat.lt_of_lt_of_le (by have := World.block_lt_of_cell? _ _ hw166_0; first | rwa [add_block] at this | exact this) GW171.out))) _).trans (((cell_far (p := ⟨gb171, _, none⟩) (by first | exact Nat.ne_of_lt (Nat.lt_of_lt_of_le (by have := World.block_lt_of_cell? _ _ hw166_0; first | rwa [add_block] at this | exact this) GW171.out) | (rw [add_block]; exact Nat.ne_of_lt (Nat.lt_of_lt_of_le (by have := World.block_lt_of_cell? _ _ hw166_0; first | rwa [add_block] at this | exact this) GW171.out)) | (show (Addr.add _ _).block ≠ _; rw [add_block]; exact Nat.ne_of_lt (Nat.lt_of_lt_of_le (by have := World.block_lt_of_cell? _ _ hw166_0; first | rwa [add_block] at this | exact this) GW171.out)) | (dsimp only; exact Nat.ne_of_lt (Nat.lt_of_lt_of_le (by have := World.block_lt_of_cell? _ _ hw166_0; first | rwa [add_block] at this | exact this) GW171.out))) _).trans (((cell_far (p := ⟨gb171, _, none⟩) (by first | exact Nat.ne_of_lt (Nat.lt_of_lt_of_le (by have := World.block_lt_of_cell? _ _ hw166_0; first | rwa [add_block] at this | exact this) GW171.out) | (rw [add_block]; exact Nat.ne_of_lt (Nat.lt_of_lt_of_le (by have := World.block_lt_of_cell? _ _ hw166_0; first | rwa [add_block] at this | exact this) GW171.out)) | (show (Addr.add _ _).block ≠ _; rw [add_block]; exact Nat.ne_of_lt (Nat.lt_of_lt_of_le (by have := World.block_lt_of_cell? _ _ hw166_0; first | rwa [add_block] at this | exact this) GW171.out)) | (dsimp only; exact Nat.ne_of_lt (Nat.lt_of_lt_of_le (by have := World.block_lt_of_cell? _ _ hw166_0; first | rwa [add_block] at this | exact this) GW171.out))) _).trans (hHeld.2))))))))⟩ (fun hHeld => ?_)
          clear hK K
          refine done_ (done_of HT_.out (by kernel_rfl)) ?_
          have hnb32 := NB171_161.out
          have hnc32 := NB161_171.out
          have hcz33_0 : w26.cell? ⟨gb171, 0, none⟩ = some (.int .u64 0) := (blk_cell BK171.out 0).trans rfl
          have hcz33_1 : w26.cell? ⟨gb171, 1, none⟩ = some (.int .i64 0) := (blk_cell BK171.out 1).trans rfl
          have hcz33_2 : w26.cell? ⟨gb171, 2, none⟩ = some (.int .i64 0) := (blk_cell BK171.out 2).trans rfl
          have hcz33_3 : w26.cell? ⟨gb171, 3, none⟩ = some (.slice none 0 0) := (blk_cell BK171.out 3).trans rfl
          have hfz33_0 := blk_frozen BK171.out 0
          have hfz33_1 := blk_frozen BK171.out 1
          have hfz33_2 := blk_frozen BK171.out 2
          have hfz33_3 := blk_frozen BK171.out 3
          try go_wp2_with (first | ((with_reducible refine gate_callee (f := 32) rfl ?_); refine goesL_ (some 45) rfl rfl Tryz.func32 (by kernel_rfl) rfl #[.agg #[.int .u64 t162, .int .i64 (wrap64 (rd l0 t163)), .int .i64 (wrap64 (rd l0 (ji10))), .slice Ao27 t168.length co27]] rfl (by (try simp only [List.map_toArray, List.map_cons, List.map_nil]); first | done | (simp only [hji10]; rfl) | rfl | (simp only [List.length_drop, List.length_take]; rfl)) ?_; (with_reducible refine (frag_Right.calls k t162 (wrap64 (rd l0 t163)) (wrap64 (rd l0 (ji10))) _ _ t168 true _ ?side1 ?side2 A17.out).mono ?_); (case side1 => refine (Kd.R_reads' (e := 5) (base := w.heap.size) (ok := fun k_ => True) (n := t168.length) (c := co27) ?_).2.2; exact (by (with_reducible repeat (first | apply Kd.R_alloc | apply Kd.R_drewN | apply Kd.R_drew)); exact (Kd.R_mono (Kd.R_far (p := ⟨gb171, 3, none⟩) (Kd.R_far (p := ⟨gb171, 2, none⟩) (Kd.R_far (p := ⟨gb171, 1, none⟩) (Kd.R_far (p := ⟨gb171, 0, none⟩) (Kd.R_types HO170.out BK171.out (by decide)) (fun _ hk => hk.2) (.int .u64 t162)) (fun _ hk => hk.2) (.int .i64 (wrap64 (rd l0 t163)))) (fun _ hk => hk.2) (.int .i64 (wrap64 (rd l0 (ji10))))) (fun _ hk => hk.2) (.slice Ao27 t168.length co27)) (fun _ h_ => h_.1)))); (case side2 => exact (Kd.R_reads' HO170.out).2.1); rintro e w34 ⟨rfl, hb⟩; refine ⟨_, rfl, ?_⟩; have n0_ := Aside0.mk (Kd.R_below (by (with_reducible repeat (first | apply Kd.R_alloc | apply Kd.R_drewN | apply Kd.R_drew)); exact (Kd.R_mono (Kd.R_far (p := ⟨gb171, 3, none⟩) (Kd.R_far (p := ⟨gb171, 2, none⟩) (Kd.R_far (p := ⟨gb171, 1, none⟩) (Kd.R_far (p := ⟨gb171, 0, none⟩) (Kd.R_types HO170.out BK171.out (by decide)) (fun _ hk => hk.2) (.int .u64 t162)) (fun _ hk => hk.2) (.int .i64 (wrap64 (rd l0 t163)))) (fun _ hk => hk.2) (.int .i64 (wrap64 (rd l0 (ji10))))) (fun _ hk => hk.2) (.slice Ao27 t168.length co27)) (fun _ h_ => h_.1))) hb); have n1_ := Aside0.mk (blk_below (g := gb161) (o := .cells #[.int .u64 0, .int .i64 0, .int .i64 0, .slice none 0 0] 60 (0, 0)) (by (with_reducible repeat (first | refine blk_drewN ?_ _ | refine blk_drew ?_ | refine blk_alloc ?_ _)); refine blk_far ?_ NB161_171.out _; (with_reducible repeat (first | refine blk_drewN ?_ _ | refine blk_drew ?_ | refine blk_alloc ?_ _)); refine blk_far ?_ NB161_171.out _; (with_reducible repeat (first | refine blk_drewN ?_ _ | refine blk_drew ?_ | refine blk_alloc ?_ _)); refine blk_far ?_ NB161_171.out _; (with_reducible repeat (first | refine blk_drewN ?_ _ | refine blk_drew ?_ | refine blk_alloc ?_ _)); refine blk_far ?_ NB161_171.out _; (with_reducible repeat (first | refine blk_drewN ?_ _ | refine blk_drew ?_ | refine blk_alloc ?_ _)); exact BK161.out) hb); have n2_ := Aside0.mk (blk_below (g := gb171) (o := .cells #[.int .u64 t162, .int .i64 (wrap64 (rd l0 t163)), .int .i64 (wrap64 (rd l0 (ji10))), .slice Ao27 t168.length co27] 60 (0, 0)) (by (with_reducible repeat (first | refine blk_drewN ?_ _ | refine blk_drew ?_ | refine blk_alloc ?_ _)); refine blk_put (cs := #[.int .u64 t162, .int .i64 (wrap64 (rd l0 t163)), .int .i64 (wrap64 (rd l0 (ji10))), .slice none 0 0]) ?_ 3 _ rfl; (with_reducible repeat (first | refine blk_drewN ?_ _ | refine blk_drew ?_ | refine blk_alloc ?_ _)); refine blk_put (cs := #[.int .u64 t162, .int .i64 (wrap64 (rd l0 t163)), .int .i64 0, .slice none 0 0]) ?_ 2 _ rfl; (with_reducible repeat (first | refine blk_drewN ?_ _ | refine blk_drew ?_ | refine blk_alloc ?_ _)); refine blk_put (cs := #[.int .u64 t162, .int .i64 0, .int .i64 0, .slice none 0 0]) ?_ 1 _ rfl; (with_reducible repeat (first | refine blk_drewN ?_ _ | refine blk_drew ?_ | refine blk_alloc ?_ _)); refine blk_put (cs := #[.int .u64 0, .int .i64 0, .int .i64 0, .slice none 0 0]) ?_ 0 _ rfl; (with_reducible repeat (first | refine blk_drewN ?_ _ | refine blk_drew ?_ | refine blk_alloc ?_ _)); exact BK171.out) hb); have n3_ := Aside0.mk (below_step (by repeat (first | (with_reducible first | exact HB.out | apply below_alloc | apply pw_below_drewN | apply below_drew1 | refine below_set ?_ GE161.out | refine below_set ?_ GE171.out) | exact HB.out)) hb); clear HO170; clear BK161; clear BK171; clear HB; have HO170 := n0_; have BK161 := n1_; have BK171 := n2_; have HB := n3_; clear n0_ n1_ n2_ n3_; (try clear hb); (try clear hb2); (try clear hk); (try clear hi); have hcz35_0 : w34.cell? ⟨gb171, 0, none⟩ = some (.int .u64 t162) := (blk_cell BK171.out 0).trans rfl; have hcz35_1 : w34.cell? ⟨gb171, 1, none⟩ = some (.int .i64 (wrap64 (rd l0 t163))) := (blk_cell BK171.out 1).trans rfl; have hcz35_2 : w34.cell? ⟨gb171, 2, none⟩ = some (.int .i64 (wrap64 (rd l0 (ji10)))) := (blk_cell BK171.out 2).trans rfl; have hcz35_3 : w34.cell? ⟨gb171, 3, none⟩ = some (.slice Ao27 t168.length co27) := (blk_cell BK171.out 3).trans rfl; have hfz35_0 := blk_frozen BK171.out 0; have hfz35_1 := blk_frozen BK171.out 1; have hfz35_2 := blk_frozen BK171.out 2; have hfz35_3 := blk_frozen BK171.out 3; have hcz36_0 : w34.cell? ⟨gb161, 0, none⟩ = some (.int .u64 0) := (blk_cell BK161.out 0).trans rfl; have hcz36_1 : w34.cell? ⟨gb161, 1, none⟩ = some (.int .i64 0) := (blk_cell BK161.out 1).trans rfl; have hcz36_2 : w34.cell? ⟨gb161, 2, none⟩ = some (.int .i64 0) := (blk_cell BK161.out 2).trans rfl; have hcz36_3 : w34.cell? ⟨gb161, 3, none⟩ = some (.slice none 0 0) := (blk_cell BK161.out 3).trans rfl; have hfz36_0 := blk_frozen BK161.out 0; have hfz36_1 := blk_frozen BK161.out 1; have hfz36_2 := blk_frozen BK161.out 2; have hfz36_3 := blk_frozen BK161.out 3))
          refine bodyPost_ret (results_ct rfl _ _ gb161 60 #[.int .u64 t162, .int .i64 (wrap64 (rd l0 t163)), .int .i64 (wrap64 (rd l0 (ji10))), .slice Ao27 t168.length co27] (0, 0) _ rfl (by (with_reducible repeat (first | refine blk_drewN ?_ _ | refine blk_drew ?_ | refine blk_alloc ?_ _)); refine blk_put (cs := #[.int .u64 t162, .int .i64 (wrap64 (rd l0 t163)), .int .i64 (wrap64 (rd l0 (ji10))), .slice none 0 0]) ?_ 3 _ rfl; (with_reducible repeat (first | refine blk_drewN ?_ _ | refine blk_drew ?_ | refine blk_alloc ?_ _)); refine blk_put (cs := #[.int .u64 t162, .int .i64 (wrap64 (rd l0 t163)), .int .i64 0, .slice none 0 0]) ?_ 2 _ rfl; (with_reducible repeat (first | refine blk_drewN ?_ _ | refine blk_drew ?_ | refine blk_alloc ?_ _)); refine blk_put (cs := #[.int .u64 t162, .int .i64 0, .int .i64 0, .slice none 0 0]) ?_ 1 _ rfl; (with_reducible repeat (first | refine blk_drewN ?_ _ | refine blk_drew ?_ | refine blk_alloc ?_ _)); refine blk_put (cs := #[.int .u64 0, .int .i64 0, .int .i64 0, .slice none 0 0]) ?_ 0 _ rfl; (with_reducible repeat (first | refine blk_drewN ?_ _ | refine blk_drew ?_ | refine blk_alloc ?_ _)); exact BK161.out) Tryz.underlying60 rfl (by kernel_rfl)) rfl ?_
          exact ⟨_, by first | rfl | (simp [] <;> rfl) | (simp only [← hji10, ← hji13]; first | rfl | (simp [] <;> rfl)) | (simp [*] <;> rfl), by (with_reducible repeat (first | apply Kd.R_alloc | apply Kd.R_drewN | apply Kd.R_drew)); exact Kd.R_mono (Kd.R_far (p := ⟨gb161, 3, none⟩) (Kd.R_far (p := ⟨gb161, 2, none⟩) (Kd.R_far (p := ⟨gb161, 1, none⟩) (Kd.R_far (p := ⟨gb161, 0, none⟩) (Kd.R_types HO170.out BK161.out (by decide)) (fun _ hk => hk.2) (.int .u64 t162)) (fun _ hk => hk.2) (.int .i64 (wrap64 (rd l0 t163)))) (fun _ hk => hk.2) (.int .i64 (wrap64 (rd l0 (ji10))))) (fun _ hk => hk.2) (.slice Ao27 t168.length co27)) (fun _ hk => trivial), by repeat (first | (with_reducible first | exact HB.out | apply below_alloc | apply pw_below_drewN | apply below_drew1 | refine below_set ?_ GE161.out | refine below_set ?_ GE171.out) | exact HB.out)⟩
         ·replace c18 := Bool.eq_false_iff.mpr c18
          subst c18
          have H1 : (some (0, 0, 0, ([] : List Int), 3)) = some (r1, r2, r3, r4, r5) := by rw [if_neg (show ¬ (false = true) by decide)] at H; exact H
          clear H
          have H := H1
          clear H1
          simp only [Option.some.injEq, Prod.mk.injEq] at H
          obtain ⟨rfl, rfl, rfl, rfl, rfl⟩ := H
          go_enter Tryz.func21, Tryz.ntmps21
          try go_wp2_with (first | ((with_reducible refine gate_dst (N := 2) rfl ?_); refine box_event ?hg (N := 2) ?hd (cs := #[.int .u64 0, .int .i64 0, .int .i64 0, .slice none 0 0]) (t := 60) ?hr ?_; (case hd => rfl); (case hg => rfl); (case hr => first | (go_simp; done) | (go_simp; rfl)); intro gb161 hg w37 hbox hb; have n0_ := Aside0.mk (below_step (by repeat (first | (with_reducible first | exact HB.out | apply below_alloc | apply pw_below_drewN | apply below_drew1) | exact HB.out)) hb); have n1_ := Aside0.mk (hbox); have n2_ := Aside0.mk ((by rw [hg]; exact (below_size (by repeat (first | (with_reducible first | exact HB.out | apply below_alloc | apply pw_below_drewN | apply below_drew1) | exact HB.out))) : w.heap.size ≤ gb161)); have n3_ := Aside0.mk ((by rw [hg]; exact (below_size (by repeat (first | (with_reducible first | exact HB.out | apply below_alloc | apply pw_below_drewN | apply below_drew1) | exact HB.out))) : w.heap.size ≤ gb161)); clear HB; have HB := n0_; have BK161 := n1_; have GW161 := n2_; have GE161 := n3_; clear n0_ n1_ n2_ n3_; clear hb hbox hg) | ((with_reducible refine gate_callee (f := 40) rfl ?_); refine goesL_ (some 10) rfl rfl Tryz.func40 (by kernel_rfl) rfl #[.slice A0 l0.length c0, .int .i64 0] rfl (by (try simp only [List.map_toArray, List.map_cons, List.map_nil]); first | done | rfl | (simp only [List.length_drop, List.length_take]; rfl)) ?_; (with_reducible refine (vint_Get.calls _ _ l0 0 t162 t163 t164 _ ?side1 ?side2 A2.out).mono ?_); (case side1 => repeat (first | exact (Kd.C_below HR0.out HB.out) | (with_reducible refine Kd.C_alloc ?_ _) | (with_reducible refine Kd.C_drewN ?_ _) | (with_reducible refine Kd.C_drew ?_))); (case side2 => exact HC0.out); rintro e w38 ⟨rfl, hb⟩; refine ⟨_, rfl, ?_⟩; have n0_ := Aside0.mk (blk_below (g := gb161) (o := .cells #[.int .u64 0, .int .i64 0, .int .i64 0, .slice none 0 0] 60 (0, 0)) (by (with_reducible repeat (first | refine blk_drewN ?_ _ | refine blk_drew ?_ | refine blk_alloc ?_ _)); exact BK161.out) hb); have n1_ := Aside0.mk (below_step (by repeat (first | (with_reducible first | exact HB.out | apply below_alloc | apply pw_below_drewN | apply below_drew1 | refine below_set ?_ GE161.out) | exact HB.out)) hb); clear BK161; clear HB; have BK161 := n0_; have HB := n1_; clear n0_ n1_; (try clear hb); (try clear hb2); (try clear hk); (try clear hi)))
          have n0_ := Aside0.mk (blk_drew BK161.out)
          have n1_ := Aside0.mk (below_drew1 HB.out)
          clear BK161
          clear HB
          have BK161 := n0_
          have HB := n1_
          clear n0_ n1_
          have p165 : 0 ≤ (t163 : Int) := of_decide_eq_true (by first | (with_reducible assumption) | assumption)
          have q165 : t163 < (l0.length : Int) := of_decide_eq_true (by first | (with_reducible assumption) | assumption)
          obtain ⟨ad165, e165, hx165_0⟩ := Kd.at_int HR0.out t163 p165 q165
          have hw165_0 := hx165_0
          cases e165
          replace hx165_0 := (HB.out.cell (World.block_lt_of_cell? w _ hx165_0)).trans hx165_0
          replace p165 := eq_true p165
          replace q165 := eq_true q165
          have p166 : 0 ≤ ((ji10) : Int) := of_decide_eq_true (by first | (with_reducible assumption) | assumption)
          have q166 : (ji10) < (l0.length : Int) := of_decide_eq_true (by first | (with_reducible assumption) | assumption)
          obtain ⟨ad166, e166, hx166_0⟩ := Kd.at_int HR0.out (ji10) p166 q166
          have hw166_0 := hx166_0
          obtain rfl : ad165 = ad166 := (by injection e166)
          replace hx166_0 := (HB.out.cell (World.block_lt_of_cell? w _ hx166_0)).trans hx166_0
          replace p166 := eq_true p166
          replace q166 := eq_true q166
          obtain ⟨i040, hi040, _, hsz40, _⟩ := info_parts info5
          obtain ⟨A40, hcut40, hA40, hC40⟩ := print_drop_of (P := Tryz.prog) (Value.int .u8) 0 22 5 .i64 Tryz.underlying22 hi040 hsz40 (some ad165) c0 l0 (ji13) (of_decide_eq_true (by first | (with_reducible assumption) | assumption)) (of_decide_eq_true (by first | (with_reducible assumption) | assumption)) HC0.out
          have HR167 := Aside0.mk (Kd.C_of_reads (h1 := fun _ => rfl) (hA40 _ (Kd.reads_of_C HR0.out)))
          have HC167 := Aside0.mk hC40
          clear hA40 hC40 hi040 hsz40
          refine start_ (n := 20) (S := fun w' => w'.cell? (ad165.add (t163).toNat) = some (.int .u8 (rd l0 t163)) ∧ w'.cell? (ad165.add ((ji10)).toNat) = some (.int .u8 (rd l0 (ji10)))) (ds := []) #[false, false, false, false, false, false, false, false, false, false, false, false, false, false, false, false, false, false, false, false] (by kernel_rfl) rfl rfl ⟨((HB.out.cell (World.block_lt_of_cell? w _ hw165_0)).trans hw165_0), ((HB.out.cell (World.block_lt_of_cell? w _ hw166_0)).trans hw166_0)⟩ (fun hHeld => ?_); refine with_tabW frag_Read.tab6 frag_Read.bits6 (fun HT_ HW_ => ?_)
          generalize w38.drew = w39 at BK161 HB HR167 hx165_0 hx166_0 hHeld ⊢
          refine pure_ (i := 0) (N := some 26) (v := ?_) (a' := ?_) #[true, false, false, false, false, false, false, false, false, false, false, false, false, false, false, false, false, false, false, false] rfl rfl (any_of HT_.out (by kernel_rfl)) (fun _ _ _ h => h) (Or.inl ⟨by rfl, ?_⟩) ?_ ?_
          rotate_left
          ·intro w'
           go_simp
           with_reducible rfl
          rotate_left
          ·simp only [Act.put, List.setIfInBounds_toArray, List.set_cons_zero, List.set_cons_succ, i64_w, i32_w]
           rfl
          refine pure_ (i := 1) (N := some 27) (v := ?_) (a' := ?_) #[true, true, false, false, false, false, false, false, false, false, false, false, false, false, false, false, false, false, false, false] rfl rfl (any_of HT_.out (by kernel_rfl)) (fun _ _ _ h => h) (Or.inl ⟨by rfl, ?_⟩) ?_ ?_
          rotate_left
          ·intro w'
           go_simp
           with_reducible rfl
          rotate_left
          ·simp only [Act.put, List.setIfInBounds_toArray, List.set_cons_zero, List.set_cons_succ, i64_w, i32_w]
           rfl
          refine pure_ (i := 2) (N := some 28) (v := ?_) (a' := ?_) #[true, true, true, false, false, false, false, false, false, false, false, false, false, false, false, false, false, false, false, false] rfl rfl (any_of HT_.out (by kernel_rfl)) (fun _ _ _ h => h) (Or.inl ⟨by rfl, ?_⟩) ?_ ?_
          rotate_left
          ·intro w'
           go_simp
           with_reducible rfl
          rotate_left
          ·simp only [Act.put, List.setIfInBounds_toArray, List.set_cons_zero, List.set_cons_succ, i64_w, i32_w]
           rfl
          refine pure_ (i := 3) (N := some 29) (v := ?_) (a' := ?_) #[true, true, true, true, false, false, false, false, false, false, false, false, false, false, false, false, false, false, false, false] rfl rfl (any_of HT_.out (by kernel_rfl)) (fun _ _ _ h => h) (Or.inl ⟨by rfl, ?_⟩) ?_ ?_
          rotate_left
          ·intro w'
           go_simp
           with_reducible rfl
          rotate_left
          ·simp only [Act.put, List.setIfInBounds_toArray, List.set_cons_zero, List.set_cons_succ, i64_w, i32_w]
           rfl
          refine pure_ (i := 6) (N := some 32) (v := ?_) (a' := ?_) #[true, true, true, true, false, false, true, false, false, false, false, false, false, false, false, false, false, false, false, false] rfl rfl (any_of HT_.out (by kernel_rfl)) (fun _ _ _ h => h) (Or.inl ⟨by rfl, ?_⟩) ?_ ?_
          rotate_left
          ·intro w'
           go_simp
           with_reducible rfl
          rotate_left
          ·simp only [Act.put, List.setIfInBounds_toArray, List.set_cons_zero, List.set_cons_succ, i64_w, i32_w]
           rfl
          refine pure_ (i := 7) (N := some 33) (v := ?_) (a' := ?_) #[true, true, true, true, false, false, true, true, false, false, false, false, false, false, false, false, false, false, false, false] rfl rfl (any_of HT_.out (by kernel_rfl)) (fun _ _ _ h => h) (Or.inl ⟨by rfl, ?_⟩) ?_ ?_
          rotate_left
          ·intro w'
           go_simp
           with_reducible rfl
          rotate_left
          ·simp only [Act.put, List.setIfInBounds_toArray, List.set_cons_zero, List.set_cons_succ, i64_w, i32_w]
           rfl
          refine pure_ (i := 8) (N := some 34) (v := ?_) (a' := ?_) #[true, true, true, true, false, false, true, true, true, false, false, false, false, false, false, false, false, false, false, false] rfl rfl (any_of HT_.out (by kernel_rfl)) (fun _ _ _ h => h) (Or.inl ⟨by rfl, ?_⟩) ?_ ?_
          rotate_left
          ·intro w'
           go_simp
           with_reducible rfl
          rotate_left
          ·simp only [Act.put, List.setIfInBounds_toArray, List.set_cons_zero, List.set_cons_succ, i64_w, i32_w]
           rfl
          refine pure_ (i := 9) (N := some 35) (v := ?_) (a' := ?_) #[true, true, true, true, false, false, true, true, true, true, false, false, false, false, false, false, false, false, false, false] rfl rfl (any_of HT_.out (by kernel_rfl)) (fun _ _ _ h => h) (Or.inl ⟨by rfl, ?_⟩) ?_ ?_
          rotate_left
          ·intro w'
           go_simp
           with_reducible rfl
          rotate_left
          ·simp only [Act.put, List.setIfInBounds_toArray, List.set_cons_zero, List.set_cons_succ, i64_w, i32_w]
           rfl
          refine pure_ (i := 12) (N := some 38) (v := ?_) (a' := ?_) #[true, true, true, true, false, false, true, true, true, true, false, false, true, false, false, false, false, false, false, false] rfl rfl (any_of HT_.out (by kernel_rfl)) (fun _ _ _ h => h) (Or.inl ⟨by rfl, ?_⟩) ?_ ?_
          rotate_left
          ·intro w'
           go_simp
           with_reducible rfl
          rotate_left
          ·simp only [Act.put, List.setIfInBounds_toArray, List.set_cons_zero, List.set_cons_succ, i64_w, i32_w]
           rfl
          refine pure_ (i := 13) (N := some 39) (v := ?_) (a' := ?_) #[true, true, true, true, false, false, true, true, true, true, false, false, true, true, false, false, false, false, false, false] rfl rfl (any_of HT_.out (by kernel_rfl)) (fun _ _ _ h => h) (Or.inl ⟨by rfl, ?_⟩) ?_ ?_
          rotate_left
          ·intro w'
           go_simp
           with_reducible rfl
          rotate_left
          ·simp only [Act.put, List.setIfInBounds_toArray, List.set_cons_zero, List.set_cons_succ, i64_w, i32_w]
           rfl
          refine pure_ (i := 14) (N := some 40) (v := ?_) (a' := ?_) #[true, true, true, true, false, false, true, true, true, true, false, false, true, true, true, false, false, false, false, false] rfl rfl (any_of HT_.out (by kernel_rfl)) (fun _ _ _ h => h) (Or.inl ⟨by rfl, ?_⟩) ?_ ?_
          rotate_left
          ·intro w'
           go_simp
           with_reducible rfl
          rotate_left
          ·simp only [Act.put, List.setIfInBounds_toArray, List.set_cons_zero, List.set_cons_succ, i64_w, i32_w]
           rfl
          refine pure_ (i := 15) (N := some 41) (v := ?_) (a' := ?_) #[true, true, true, true, false, false, true, true, true, true, false, false, true, true, true, true, false, false, false, false] rfl rfl (any_of HT_.out (by kernel_rfl)) (fun _ _ _ h => h) (Or.inl ⟨by rfl, ?_⟩) ?_ ?_
          rotate_left
          ·intro w'
           go_simp
           with_reducible rfl
          rotate_left
          ·simp only [Act.put, List.setIfInBounds_toArray, List.set_cons_zero, List.set_cons_succ, i64_w, i32_w]
           rfl
          refine take_ (i := 4) (N := some 30) (v := ?_) (a' := ?_) #[true, true, true, true, true, false, true, true, true, true, false, false, true, true, true, true, false, false, false, false] rfl rfl (take_ofW HT_.out HW_.out (by kernel_rfl)) (fun _ _ _ h => h) (Or.inl ⟨by rfl, ?_⟩) hHeld ?_ ?_
          rotate_left
          ·rintro w' ⟨s0, s1⟩
           go_simp
           with_reducible rfl
          rotate_left
          ·simp only [Act.put, List.setIfInBounds_toArray, List.set_cons_zero, List.set_cons_succ, i64_w, i32_w]
           rfl
          refine pure_ (i := 5) (N := some 31) (v := ?_) (a' := ?_) #[true, true, true, true, true, true, true, true, true, true, false, false, true, true, true, true, false, false, false, false] rfl rfl (any_of HT_.out (by kernel_rfl)) (fun _ _ _ h => h) (Or.inl ⟨by rfl, ?_⟩) ?_ ?_
          rotate_left
          ·intro w'
           go_simp
           with_reducible rfl
          rotate_left
          ·simp only [Act.put, List.setIfInBounds_toArray, List.set_cons_zero, List.set_cons_succ, i64_w, i32_w]
           rfl
          refine take_ (i := 10) (N := some 36) (v := ?_) (a' := ?_) #[true, true, true, true, true, true, true, true, true, true, true, false, true, true, true, true, false, false, false, false] rfl rfl (take_ofW HT_.out HW_.out (by kernel_rfl)) (fun _ _ _ h => h) (Or.inl ⟨by rfl, ?_⟩) hHeld ?_ ?_
          rotate_left
          ·rintro w' ⟨s0, s1⟩
           go_simp
           with_reducible rfl
          rotate_left
          ·simp only [Act.put, List.setIfInBounds_toArray, List.set_cons_zero, List.set_cons_succ, i64_w, i32_w]
           rfl
          refine pure_ (i := 11) (N := some 37) (v := ?_) (a' := ?_) #[true, true, true, true, true, true, true, true, true, true, true, true, true, true, true, true, false, false, false, false] rfl rfl (any_of HT_.out (by kernel_rfl)) (fun _ _ _ h => h) (Or.inl ⟨by rfl, ?_⟩) ?_ ?_
          rotate_left
          ·intro w'
           go_simp
           with_reducible rfl
          rotate_left
          ·simp only [Act.put, List.setIfInBounds_toArray, List.set_cons_zero, List.set_cons_succ, i64_w, i32_w]
           rfl
          refine join_ (σ := Value × Nat) 1 #[true, true, true, true, true, true, true, true, true, true, true, true, true, true, true, true, true, true, true, false] (fun s_ => [(42, s_.1), (7, .pointer (some ⟨s_.2, 0, none⟩)), (43, .agg #[.int .u64 t162, .int .i64 (wrap64 (rd l0 t163)), .int .i64 (wrap64 (rd l0 (ji10))), s_.1])]) (fun s_ w' => (w'.cell? (ad165.add (t163).toNat) = some (.int .u8 (rd l0 t163)) ∧ w'.cell? (ad165.add ((ji10)).toNat) = some (.int .u8 (rd l0 (ji10)))) ∧ (Kd.R (Kd.int .u8) 5 w' w.heap.size (fun _ => True) s_.1 t168) ∧ (w'.heap[gb161]? = some (.cells #[.int .u64 0, .int .i64 0, .int .i64 0, .slice none 0 0] 60 (0, 0))) ∧ (w'.heap[s_.2]? = some (.cells #[.int .u64 0, .int .i64 0, .int .i64 0, .slice none 0 0] 60 (0, 0))) ∧ (w.heap.size ≤ s_.2) ∧ (w.heap.size ≤ s_.2) ∧ (gb161 ≠ s_.2) ∧ (s_.2 ≠ gb161) ∧ (Below w.heap.size w w')) ?_ ?_
          rotate_left
          ·intro hCont
           refine two_ (i := 16) (j := 18) (Ni := some 42) (Nj := some 7) #[true, true, true, true, true, true, true, true, true, true, true, true, true, true, true, true, true, false, false, false] #[true, true, true, true, true, true, true, true, true, true, true, true, true, true, true, true, false, false, true, false] rfl rfl rfl rfl (two_of HT_.out (by kernel_rfl)) (by decide) (by decide) (fun K hK => ?_) (fun K hK => ?_)
           ·skip
            refine goes_ Tryz.func29 (by kernel_rfl) rfl #[.slice A40 (l0.drop ((ji13) : Int).toNat).length (c0 - (ji13).toNat)] (by rfl) rfl rfl (by (try simp only [List.map_toArray, List.map_cons, List.map_nil]); first | done | (rw [show (l0.drop ((ji13) : Int).toNat).length = (l0.length - (ji13).toNat) from List.length_drop] <;> rfl) | (simp only [hji13]; rfl) | rfl | (simp only [List.length_drop, List.length_take]; rfl)) ?_
            with_reducible refine (slices_Clone_byte_byte.calls _ _ (l0.drop ((ji13) : Int).toNat) t168 _ ?side1 ?side2 A16.out).mono ?_
            (case side1 => repeat (first | exact (Kd.C_below HR167.out HB.out) | (with_reducible refine Kd.C_alloc ?_ _) | (with_reducible refine Kd.C_drewN ?_ _) | (with_reducible refine Kd.C_drew ?_)))
            (case side2 => exact HC167.out)
            rintro e w41 ⟨v169, rfl, ho0, hb⟩
            refine ⟨_, rfl, ?_⟩
            have n0_ := Aside0.mk (Kd.R_lower ho0 (below_size (by repeat (first | (with_reducible first | exact HB.out | apply below_alloc | apply pw_below_drewN | apply below_drew1 | refine below_set ?_ GE161.out) | exact HB.out))))
            have n1_ := Aside0.mk (blk_below (g := gb161) (o := .cells #[.int .u64 0, .int .i64 0, .int .i64 0, .slice none 0 0] 60 (0, 0)) (by (with_reducible repeat (first | refine blk_drewN ?_ _ | refine blk_drew ?_ | refine blk_alloc ?_ _)); exact BK161.out) hb)
            have n2_ := Aside0.mk (below_step (by repeat (first | (with_reducible first | exact HB.out | apply below_alloc | apply pw_below_drewN | apply below_drew1 | refine below_set ?_ GE161.out) | exact HB.out)) hb)
            clear BK161
            clear HB
            have HO170 := n0_
            have BK161 := n1_
            have HB := n2_
            clear n0_ n1_ n2_
            (try clear hb)
            (try clear hb2)
            (try clear hk)
            (try clear hi)
            (try clear ho0)
            obtain ⟨Ao42, co42, eo42⟩ := Kd.R_slice HO170.out
            (first | subst eo42 | (injection eo42 with f1_ f2_ f3_; have f4_ := f1_.symm; have f5_ := f3_.symm; clear f1_ f2_ f3_; subst f4_; subst f5_))
            refine hK.out _ _ ⟨((HB.out.cell (World.block_lt_of_cell? w _ hw165_0)).trans hw165_0), ((HB.out.cell (World.block_lt_of_cell? w _ hw166_0)).trans hw166_0)⟩ (fun hHeld => ?_)
            clear hK K
            refine norm_ (a' := ?_) ?_ ?_
            rotate_left
            ·show Act.put _ (some 42) _ = _
             simp only [Act.put, List.setIfInBounds_toArray, List.set_cons_zero, List.set_cons_succ, i64_w, i32_w]
             rfl
            refine pure_ (i := 17) (N := some 43) (v := ?_) (a' := ?_) #[true, true, true, true, true, true, true, true, true, true, true, true, true, true, true, true, true, true, false, false] rfl rfl (any_of HT_.out (by kernel_rfl)) (fun _ _ _ h => h) (Or.inl ⟨by rfl, ?_⟩) ?_ ?_
            rotate_left
            ·intro w'
             go_simp
             with_reducible rfl
            rotate_left
            ·simp only [Act.put, List.setIfInBounds_toArray, List.set_cons_zero, List.set_cons_succ, i64_w, i32_w]
             rfl
            refine one_ (i := 18) (N := some 7) #[true, true, true, true, true, true, true, true, true, true, true, true, true, true, true, true, true, true, true, false] rfl rfl (one_of HT_.out (by kernel_rfl)) (by decide) (fun K hK => ?_)
            refine box_step ?hg (N := 7) ?hd (cs := #[.int .u64 0, .int .i64 0, .int .i64 0, .slice none 0 0]) (t := 60) ?hr ?_; (case hd => rfl); (case hg => rfl); (case hr => first | (go_simp; done) | (go_simp; rfl))
            intro gb171 hg w43 hbox hb
            have n0_ := Aside0.mk (Kd.R_below (by (with_reducible repeat (first | apply Kd.R_alloc | apply Kd.R_drewN | apply Kd.R_drew)); exact HO170.out) hb)
            have n1_ := Aside0.mk (blk_below (g := gb161) (o := .cells #[.int .u64 0, .int .i64 0, .int .i64 0, .slice none 0 0] 60 (0, 0)) (by (with_reducible repeat (first | refine blk_drewN ?_ _ | refine blk_drew ?_ | refine blk_alloc ?_ _)); exact BK161.out) hb)
            have n2_ := Aside0.mk (below_step (by repeat (first | (with_reducible first | exact HB.out | apply below_alloc | apply pw_below_drewN | apply below_drew1 | refine below_set ?_ GE161.out) | exact HB.out)) hb)
            have n3_ := Aside0.mk (hbox)
            have n4_ := Aside0.mk ((by rw [hg]; exact (below_size (by repeat (first | (with_reducible first | exact HB.out | apply below_alloc | apply pw_below_drewN | apply below_drew1 | refine below_set ?_ GE161.out) | exact HB.out))) : w.heap.size ≤ gb171))
            have n5_ := Aside0.mk ((by rw [hg]; exact (below_size (by repeat (first | (with_reducible first | exact HB.out | apply below_alloc | apply pw_below_drewN | apply below_drew1 | refine below_set ?_ GE161.out) | exact HB.out))) : w.heap.size ≤ gb171))
            have n6_ := Aside0.mk ((by rw [hg]; exact Nat.ne_of_lt (blk_lt (g := gb161) (o := .cells #[.int .u64 0, .int .i64 0, .int .i64 0, .slice none 0 0] 60 (0, 0)) (by (with_reducible repeat (first | refine blk_drewN ?_ _ | refine blk_drew ?_ | refine blk_alloc ?_ _)); exact BK161.out)) : gb161 ≠ gb171))
            have n7_ := Aside0.mk ((by rw [hg]; exact Nat.ne_of_gt (blk_lt (g := gb161) (o := .cells #[.int .u64 0, .int .i64 0, .int .i64 0, .slice none 0 0] 60 (0, 0)) (by (with_reducible repeat (first | refine blk_drewN ?_ _ | refine blk_drew ?_ | refine blk_alloc ?_ _)); exact BK161.out)) : gb171 ≠ gb161))
            clear HO170
            clear BK161
            clear HB
            have HO170 := n0_
            have BK161 := n1_
            have HB := n2_
            have BK171 := n3_
            have GW171 := n4_
            have GE171 := n5_
            have NB161_171 := n6_
            have NB171_161 := n7_
            clear n0_ n1_ n2_ n3_ n4_ n5_ n6_ n7_
            clear hb hbox hg
            refine hK.out _ _ ⟨((HB.out.cell (World.block_lt_of_cell? w _ hw165_0)).trans hw165_0), ((HB.out.cell (World.block_lt_of_cell? w _ hw166_0)).trans hw166_0)⟩ (fun hHeld => ?_)
            clear hK K
            refine norm_ (a' := ?_) ?_ ?_
            rotate_left
            ·show Act.put _ (some 7) _ = _
             simp only [Act.put, List.setIfInBounds_toArray, List.set_cons_zero, List.set_cons_succ, i64_w, i32_w]
             rfl
            exact norm_ (by simp only [putAll, Act.put, List.setIfInBounds_toArray, List.set_cons_zero, List.set_cons_succ]) (hCont (.slice Ao42 t168.length co42, gb171) _ ⟨hHeld, (by (with_reducible repeat (first | apply Kd.R_alloc | apply Kd.R_drewN | apply Kd.R_drew)); exact HO170.out), (by (with_reducible repeat (first | refine blk_drewN ?_ _ | refine blk_drew ?_ | refine blk_alloc ?_ _)); exact BK161.out), (by (with_reducible repeat (first | refine blk_drewN ?_ _ | refine blk_drew ?_ | refine blk_alloc ?_ _)); exact BK171.out), GW171.out, GE171.out, NB161_171.out, NB171_161.out, (by repeat (first | (with_reducible first | exact HB.out | apply below_alloc | apply pw_below_drewN | apply below_drew1 | refine below_set ?_ GE161.out | refine below_set ?_ GE171.out) | exact HB.out))⟩)
           ·skip
            refine box_step ?hg (N := 7) ?hd (cs := #[.int .u64 0, .int .i64 0, .int .i64 0, .slice none 0 0]) (t := 60) ?hr ?_; (case hd => rfl); (case hg => rfl); (case hr => first | (go_simp; done) | (go_simp; rfl))
            intro gb171 hg w41 hbox hb
            have n0_ := Aside0.mk (blk_below (g := gb161) (o := .cells #[.int .u64 0, .int .i64 0, .int .i64 0, .slice none 0 0] 60 (0, 0)) (by (with_reducible repeat (first | refine blk_drewN ?_ _ | refine blk_drew ?_ | refine blk_alloc ?_ _)); exact BK161.out) hb)
            have n1_ := Aside0.mk (below_step (by repeat (first | (with_reducible first | exact HB.out | apply below_alloc | apply pw_below_drewN | apply below_drew1 | refine below_set ?_ GE161.out) | exact HB.out)) hb)
            have n2_ := Aside0.mk (hbox)
            have n3_ := Aside0.mk ((by rw [hg]; exact (below_size (by repeat (first | (with_reducible first | exact HB.out | apply below_alloc | apply pw_below_drewN | apply below_drew1 | refine below_set ?_ GE161.out) | exact HB.out))) : w.heap.size ≤ gb171))
            have n4_ := Aside0.mk ((by rw [hg]; exact (below_size (by repeat (first | (with_reducible first | exact HB.out | apply below_alloc | apply pw_below_drewN | apply below_drew1 | refine below_set ?_ GE161.out) | exact HB.out))) : w.heap.size ≤ gb171))
            have n5_ := Aside0.mk ((by rw [hg]; exact Nat.ne_of_lt (blk_lt (g := gb161) (o := .cells #[.int .u64 0, .int .i64 0, .int .i64 0, .slice none 0 0] 60 (0, 0)) (by (with_reducible repeat (first | refine blk_drewN ?_ _ | refine blk_drew ?_ | refine blk_alloc ?_ _)); exact BK161.out)) : gb161 ≠ gb171))
            have n6_ := Aside0.mk ((by rw [hg]; exact Nat.ne_of_gt (blk_lt (g := gb161) (o := .cells #[.int .u64 0, .int .i64 0, .int .i64 0, .slice none 0 0] 60 (0, 0)) (by (with_reducible repeat (first | refine blk_drewN ?_ _ | refine blk_drew ?_ | refine blk_alloc ?_ _)); exact BK161.out)) : gb171 ≠ gb161))
            clear BK161
            clear HB
            have BK161 := n0_
            have HB := n1_
            have BK171 := n2_
            have GW171 := n3_
            have GE171 := n4_
            have NB161_171 := n5_
            have NB171_161 := n6_
            clear n0_ n1_ n2_ n3_ n4_ n5_ n6_
            clear hb hbox hg
            refine hK.out _ _ ⟨((HB.out.cell (World.block_lt_of_cell? w _ hw165_0)).trans hw165_0), ((HB.out.cell (World.block_lt_of_cell? w _ hw166_0)).trans hw166_0)⟩ (fun hHeld => ?_)
            clear hK K
            refine norm_ (a' := ?_) ?_ ?_
            rotate_left
            ·show Act.put _ (some 7) _ = _
             simp only [Act.put, List.setIfInBounds_toArray, List.set_cons_zero, List.set_cons_succ, i64_w, i32_w]
             rfl
            refine one_ (i := 16) (N := some 42) #[true, true, true, true, true, true, true, true, true, true, true, true, true, true, true, true, true, false, true, false] rfl rfl (one_of HT_.out (by kernel_rfl)) (by decide) (fun K hK => ?_)
            refine goes_ Tryz.func29 (by kernel_rfl) rfl #[.slice A40 (l0.drop ((ji13) : Int).toNat).length (c0 - (ji13).toNat)] (by rfl) rfl rfl (by (try simp only [List.map_toArray, List.map_cons, List.map_nil]); first | done | (rw [show (l0.drop ((ji13) : Int).toNat).length = (l0.length - (ji13).toNat) from List.length_drop] <;> rfl) | (simp only [hji13]; rfl) | rfl | (simp only [List.length_drop, List.length_take]; rfl)) ?_
            with_reducible refine (slices_Clone_byte_byte.calls _ _ (l0.drop ((ji13) : Int).toNat) t168 _ ?side1 ?side2 A16.out).mono ?_
            (case side1 => repeat (first | exact (Kd.C_below HR167.out HB.out) | (with_reducible refine Kd.C_alloc ?_ _) | (with_reducible refine Kd.C_drewN ?_ _) | (with_reducible refine Kd.C_drew ?_)))
            (case side2 => exact HC167.out)
            rintro e w42 ⟨v169, rfl, ho0, hb⟩
            refine ⟨_, rfl, ?_⟩
            have n0_ := Aside0.mk (Kd.R_lower ho0 (below_size (by repeat (first | (with_reducible first | exact HB.out | apply below_alloc | apply pw_below_drewN | apply below_drew1 | refine below_set ?_ GE161.out | refine below_set ?_ GE171.out) | exact HB.out))))
            have n1_ := Aside0.mk (blk_below (g := gb161) (o := .cells #[.int .u64 0, .int .i64 0, .int .i64 0, .slice none 0 0] 60 (0, 0)) (by (with_reducible repeat (first | refine blk_drewN ?_ _ | refine blk_drew ?_ | refine blk_alloc ?_ _)); exact BK161.out) hb)
            have n2_ := Aside0.mk (blk_below (g := gb171) (o := .cells #[.int .u64 0, .int .i64 0, .int .i64 0, .slice none 0 0] 60 (0, 0)) (by (with_reducible repeat (first | refine blk_drewN ?_ _ | refine blk_drew ?_ | refine blk_alloc ?_ _)); exact BK171.out) hb)
            have n3_ := Aside0.mk (below_step (by repeat (first | (with_reducible first | exact HB.out | apply below_alloc | apply pw_below_drewN | apply below_drew1 | refine below_set ?_ GE161.out | refine below_set ?_ GE171.out) | exact HB.out)) hb)
            clear BK161
            clear BK171
            clear HB
            have HO170 := n0_
            have BK161 := n1_
            have BK171 := n2_
            have HB := n3_
            clear n0_ n1_ n2_ n3_
            (try clear hb)
            (try clear hb2)
            (try clear hk)
            (try clear hi)
            (try clear ho0)
            obtain ⟨Ao43, co43, eo43⟩ := Kd.R_slice HO170.out
            (first | subst eo43 | (injection eo43 with f1_ f2_ f3_; have f4_ := f1_.symm; have f5_ := f3_.symm; clear f1_ f2_ f3_; subst f4_; subst f5_))
            refine hK.out _ _ ⟨((HB.out.cell (World.block_lt_of_cell? w _ hw165_0)).trans hw165_0), ((HB.out.cell (World.block_lt_of_cell? w _ hw166_0)).trans hw166_0)⟩ (fun hHeld => ?_)
            clear hK K
            refine norm_ (a' := ?_) ?_ ?_
            rotate_left
            ·show Act.put _ (some 42) _ = _
             simp only [Act.put, List.setIfInBounds_toArray, List.set_cons_zero, List.set_cons_succ, i64_w, i32_w]
             rfl
            refine pure_ (i := 17) (N := some 43) (v := ?_) (a' := ?_) #[true, true, true, true, true, true, true, true, true, true, true, true, true, true, true, true, true, true, true, false] rfl rfl (any_of HT_.out (by kernel_rfl)) (fun _ _ _ h => h) (Or.inl ⟨by rfl, ?_⟩) ?_ ?_
            rotate_left
            ·intro w'
             go_simp
             with_reducible rfl
            rotate_left
            ·simp only [Act.put, List.setIfInBounds_toArray, List.set_cons_zero, List.set_cons_succ, i64_w, i32_w]
             rfl
            exact norm_ (by simp only [putAll, Act.put, List.setIfInBounds_toArray, List.set_cons_zero, List.set_cons_succ]) (hCont (.slice Ao43 t168.length co43, gb171) _ ⟨hHeld, (by (with_reducible repeat (first | apply Kd.R_alloc | apply Kd.R_drewN | apply Kd.R_drew)); exact HO170.out), (by (with_reducible repeat (first | refine blk_drewN ?_ _ | refine blk_drew ?_ | refine blk_alloc ?_ _)); exact BK161.out), (by (with_reducible repeat (first | refine blk_drewN ?_ _ | refine blk_drew ?_ | refine blk_alloc ?_ _)); exact BK171.out), GW171.out, GE171.out, NB161_171.out, NB171_161.out, (by repeat (first | (with_reducible first | exact HB.out | apply below_alloc | apply pw_below_drewN | apply below_drew1 | refine below_set ?_ GE161.out | refine below_set ?_ GE171.out) | exact HB.out))⟩)
          rintro ⟨v169, gb171⟩ w44 ⟨hS_, h0_, h1_, h2_, h3_, h4_, h5_, h6_, h7_⟩
          have n0_ : Aside0 (Kd.R (Kd.int .u8) 5 w44 w.heap.size (fun _ => True) v169 t168) := ⟨h0_⟩
          have n1_ : Aside0 (w44.heap[gb161]? = some (.cells #[.int .u64 0, .int .i64 0, .int .i64 0, .slice none 0 0] 60 (0, 0))) := ⟨h1_⟩
          have n2_ : Aside0 (w44.heap[gb171]? = some (.cells #[.int .u64 0, .int .i64 0, .int .i64 0, .slice none 0 0] 60 (0, 0))) := ⟨h2_⟩
          have n3_ : Aside0 (w.heap.size ≤ gb171) := ⟨h3_⟩
          have n4_ : Aside0 (w.heap.size ≤ gb171) := ⟨h4_⟩
          have n5_ : Aside0 (gb161 ≠ gb171) := ⟨h5_⟩
          have n6_ : Aside0 (gb171 ≠ gb161) := ⟨h6_⟩
          have n7_ : Aside0 (Below w.heap.size w w44) := ⟨h7_⟩
          clear BK161
          clear HB
          clear h0_ h1_ h2_ h3_ h4_ h5_ h6_ h7_
          have HO170 := n0_
          have BK161 := n1_
          have BK171 := n2_
          have GW171 := n3_
          have GE171 := n4_
          have NB161_171 := n5_
          have NB171_161 := n6_
          have HB := n7_
          clear n0_ n1_ n2_ n3_ n4_ n5_ n6_ n7_
          have hHeld : w44.cell? (ad165.add (t163).toNat) = some (.int .u8 (rd l0 t163)) ∧ w44.cell? (ad165.add ((ji10)).toNat) = some (.int .u8 (rd l0 (ji10))) := hS_
          obtain ⟨Ao45, co45, eo45⟩ := Kd.R_slice HO170.out
          (first | subst eo45 | (injection eo45 with f1_ f2_ f3_; have f4_ := f1_.symm; have f5_ := f3_.symm; clear f1_ f2_ f3_; subst f4_; subst f5_))
          refine norm_ (a' := ?_) ?_ ?_
          rotate_left
          ·simp only [putAll, Act.put, List.setIfInBounds_toArray, List.set_cons_zero, List.set_cons_succ]
           rfl
          refine one_ (i := 19) (N := none) #[true, true, true, true, true, true, true, true, true, true, true, true, true, true, true, true, true, true, true, true] rfl rfl (one_of HT_.out (by kernel_rfl)) (by decide) (fun K hK => ?_)
          have hs46 : w44.cell? ⟨gb171, 0, none⟩ = some (.int .u64 0) := (blk_cell BK171.out 0).trans rfl
          have hfs46 := blk_frozen BK171.out 0
          have hns46_0 := NB161_171.out
          have hms46_0 := NB171_161.out
          have hs47 : w44.cell? ⟨gb171, 1, none⟩ = some (.int .i64 0) := (blk_cell BK171.out 1).trans rfl
          have hfs47 := blk_frozen BK171.out 1
          have hns47_0 := NB161_171.out
          have hms47_0 := NB171_161.out
          have hs48 : w44.cell? ⟨gb171, 2, none⟩ = some (.int .i64 0) := (blk_cell BK171.out 2).trans rfl
          have hfs48 := blk_frozen BK171.out 2
          have hns48_0 := NB161_171.out
          have hms48_0 := NB171_161.out
          have hs49 : w44.cell? ⟨gb171, 3, none⟩ = some (.slice none 0 0) := (blk_cell BK171.out 3).trans rfl
          have hfs49 := blk_frozen BK171.out 3
          have hns49_0 := NB161_171.out
          have hms49_0 := NB171_161.out
          refine skip_ (w1 := ?_) (by rfl) rfl ?_ ?_
          rotate_left
          ·go_simp
           rfl
          refine hK.out _ _ ⟨((cell_far (p := ⟨gb171, _, none⟩) (by first | exact Nat.ne_of_lt (Nat.lt_of_lt_of_le (by have := World.block_lt_of_cell? _ _ hw165_0; first | rwa [add_block] at this | exact this) GW171.out) | (rw [add_block]; exact Nat.ne_of_lt (Nat.lt_of_lt_of_le (by have := World.block_lt_of_cell? _ _ hw165_0; first | rwa [add_block] at this | exact this) GW171.out)) | (show (Addr.add _ _).block ≠ _; rw [add_block]; exact Nat.ne_of_lt (Nat.lt_of_lt_of_le (by have := World.block_lt_of_cell? _ _ hw165_0; first | rwa [add_block] at this | exact this) GW171.out)) | (dsimp only; exact Nat.ne_of_lt (Nat.lt_of_lt_of_le (by have := World.block_lt_of_cell? _ _ hw165_0; first | rwa [add_block] at this | exact this) GW171.out))) _).trans (((cell_far (p := ⟨gb171, _, none⟩) (by first | exact Nat.ne_of_lt (Nat.lt_of_lt_of_le (by have := World.block_lt_of_cell? _ _ hw165_0; first | rwa [add_block] at this | exact this) GW171.out) | (rw [add_block]; exact Nat.ne_of_lt (Nat.lt_of_lt_of_le (by have := World.block_lt_of_cell? _ _ hw165_0; first | rwa [add_block] at this | exact this) GW171.out)) | (show (Addr.add _ _).block ≠ _; rw [add_block]; exact Nat.ne_of_lt (Nat.lt_of_lt_of_le (by have := World.block_lt_of_cell? _ _ hw165_0; first | rwa [add_block] at this | exact this) GW171.out)) | (dsimp only; exact Nat.ne_of_lt (Nat.lt_of_lt_of_le (by have := World.block_lt_of_cell? _ _ hw165_0; first | rwa [add_block] at this | exact this) GW171.out))) _).trans (((cell_far (p := ⟨gb171, _, none⟩) (by first | exact Nat.ne_of_lt (Nat.lt_of_lt_of_le (by have := World.block_lt_of_cell? _ _ hw165_0; first | rwa [add_block] at this | exact this) GW171.out) | (rw [add_block]; exact Nat.ne_of_lt (Nat.lt_of_lt_of_le (by have := World.block_lt_of_cell? _ _ hw165_0; first | rwa [add_block] at this | exact this) GW171.out)) | (show (Addr.add _ _).block ≠ _; rw [add_block]; exact Nat.ne_of_lt (Nat.lt_of_lt_of_le (by have := World.block_lt_of_cell? _ _ hw165_0; first | rwa [add_block] at this | exact this) GW171.out)) | (dsimp only; exact Nat.ne_of_lt (Nat.lt_of_lt_of_le (by have := World.block_lt_of_cell? _ _ hw165_0; first | rwa [add_block] at this | exact this) GW171.out))) _).trans (((cell_far (p := ⟨gb171, _, none⟩) (by first | exact Nat.ne_of_lt (Nat.lt_of_lt_of_le (by have := World.block_lt_of_cell? _ _ hw165_0; first | rwa [add_block] at this | exact this) GW171.out) | (rw [add_block]; exact Nat.ne_of_lt (Nat.lt_of_lt_of_le (by have := World.block_lt_of_cell? _ _ hw165_0; first | rwa [add_block] at this | exact this) GW171.out)) | (show (Addr.add _ _).block ≠ _; rw [add_block]; exact Nat.ne_of_lt (Nat.lt_of_lt_of_le (by have := World.block_lt_of_cell? _ _ hw165_0; first | rwa [add_block] at this | exact this) GW171.out)) | (dsimp only; exact Nat.ne_of_lt (Nat.lt_of_lt_of_le (by have := World.block_lt_of_cell? _ _ hw165_0; first | rwa [add_block] at this | exact this) GW171.out))) _).trans (hHeld.1)))))))), ((cell_far (p := ⟨gb171, _, none⟩) (by first | exact Nat.ne_of_lt (Nat.lt_of_lt_of_le (by have := World.block_lt_of_cell? _ _ hw166_0; first | rwa [add_block] at this | exact this) GW171.out) | (rw [add_block]; exact Nat.ne_of_lt (Nat.lt_of_lt_of_le (by have := World.block_lt_of_cell? _ _ hw166_0; first | rwa [add_block] at this | exact this) GW171.out)) | (show (Addr.add _ _).block ≠ _; rw [add_block]; exact Nat.ne_of_lt (Nat.lt_of_lt_of_le (by have := World.block_lt_of_cell? _ _ hw166_0; first | rwa [add_block] at this | exact this) GW171.out)) | (dsimp only; exact Nat.ne_of_lt (Nat.lt_of_lt_of_le (by have := World.block_lt_of_cell? _ _ hw166_0; first | rwa [add_block] at this | exact this) GW171.out))) _).trans (((cell_far (p := ⟨gb171, _, none⟩) (by first | exact Nat.ne_of_lt (Nat.lt_of_lt_of_le (by have := World.block_lt_of_cell? _ _ hw166_0; first | rwa [add_block] at this | exact this) GW171.out) | (rw [add_block]; exact Nat.ne_of_lt (Nat.lt_of_lt_of_le (by have := World.block_lt_of_cell? _ _ hw166_0; first | rwa [add_block] at this | exact this) GW171.out)) | (show (Addr.add _ _).block ≠ _; rw [add_block]; exact Nat.ne_of_lt (Nat.lt_of_lt_of_le (by have := World.block_lt_of_cell? _ _ hw166_0; first | rwa [add_block] at this | exact this) GW171.out)) | (dsimp only; exact Nat.ne_of_lt (Nat.lt_of_lt_of_le (by have := World.block_lt_of_cell? _ _ hw166_0; first | rwa [add_block] at this | exact this) GW171.out))) _).trans (((cell_far (p := ⟨gb171, _, none⟩) (by first | exact Nat.ne_of_lt (Nat.lt_of_lt_of_le (by have := World.block_lt_of_cell? _ _ hw166_0; first | rwa [add_block] at this | exact this) GW171.out) | (rw [add_block]; exact Nat.ne_of_lt (Nat.lt_of_lt_of_le (by have := World.block_lt_of_cell? _ _ hw166_0; first | rwa [add_block] at this | exact this) GW171.out)) | (show (Addr.add _ _).block ≠ _; rw [add_block]; exact Nat.ne_of_lt (Nat.lt_of_lt_of_le (by have := World.block_lt_of_cell? _ _ hw166_0; first | rwa [add_block] at this | exact this) GW171.out)) | (dsimp only; exact Nat.ne_of_lt (Nat.lt_of_lt_of_le (by have := World.block_lt_of_cell? _ _ hw166_0; first | rwa [add_block] at this | exact this) GW171.out))) _).trans (((cell_far (p := ⟨gb171, _, none⟩) (by first | exact Nat.ne_of_lt (Nat.lt_of_lt_of_le (by have := World.block_lt_of_cell? _ _ hw166_0; first | rwa [add_block] at this | exact this) GW171.out) | (rw [add_block]; exact Nat.ne_of_lt (Nat.lt_of_lt_of_le (by have := World.block_lt_of_cell? _ _ hw166_0; first | rwa [add_block] at this | exact this) GW171.out)) | (show (Addr.add _ _).block ≠ _; rw [add_block]; exact Nat.ne_of_lt (Nat.lt_of_lt_of_le (by have := World.block_lt_of_cell? _ _ hw166_0; first | rwa [add_block] at this | exact this) GW171.out)) | (dsimp only; exact Nat.ne_of_lt (Nat.lt_of_lt_of_le (by have := World.block_lt_of_cell? _ _ hw166_0; first | rwa [add_block] at this | exact this) GW171.out))) _).trans (hHeld.2))))))))⟩ (fun hHeld => ?_)
          clear hK K
          refine done_ (done_of HT_.out (by kernel_rfl)) ?_
          have hnb50 := NB171_161.out
          have hnc50 := NB161_171.out
          have hcz51_0 : w44.cell? ⟨gb171, 0, none⟩ = some (.int .u64 0) := (blk_cell BK171.out 0).trans rfl
          have hcz51_1 : w44.cell? ⟨gb171, 1, none⟩ = some (.int .i64 0) := (blk_cell BK171.out 1).trans rfl
          have hcz51_2 : w44.cell? ⟨gb171, 2, none⟩ = some (.int .i64 0) := (blk_cell BK171.out 2).trans rfl
          have hcz51_3 : w44.cell? ⟨gb171, 3, none⟩ = some (.slice none 0 0) := (blk_cell BK171.out 3).trans rfl
          have hfz51_0 := blk_frozen BK171.out 0
          have hfz51_1 := blk_frozen BK171.out 1
          have hfz51_2 := blk_frozen BK171.out 2
          have hfz51_3 := blk_frozen BK171.out 3
          try go_wp2_with (first | ((with_reducible refine gate_callee (f := 32) rfl ?_); refine goesL_ (some 45) rfl rfl Tryz.func32 (by kernel_rfl) rfl #[.agg #[.int .u64 t162, .int .i64 (wrap64 (rd l0 t163)), .int .i64 (wrap64 (rd l0 (ji10))), .slice Ao45 t168.length co45]] rfl (by (try simp only [List.map_toArray, List.map_cons, List.map_nil]); first | done | (simp only [hji10]; rfl) | rfl | (simp only [List.length_drop, List.length_take]; rfl)) ?_; (with_reducible refine (frag_Right.calls k t162 (wrap64 (rd l0 t163)) (wrap64 (rd l0 (ji10))) _ _ t168 false _ ?side1 ?side2 A17.out).mono ?_); (case side1 => refine (Kd.R_reads' (e := 5) (base := w.heap.size) (ok := fun k_ => True) (n := t168.length) (c := co45) ?_).2.2; exact (by (with_reducible repeat (first | apply Kd.R_alloc | apply Kd.R_drewN | apply Kd.R_drew)); exact (Kd.R_mono (Kd.R_far (p := ⟨gb171, 3, none⟩) (Kd.R_far (p := ⟨gb171, 2, none⟩) (Kd.R_far (p := ⟨gb171, 1, none⟩) (Kd.R_far (p := ⟨gb171, 0, none⟩) (Kd.R_types HO170.out BK171.out (by decide)) (fun _ hk => hk.2) (.int .u64 t162)) (fun _ hk => hk.2) (.int .i64 (wrap64 (rd l0 t163)))) (fun _ hk => hk.2) (.int .i64 (wrap64 (rd l0 (ji10))))) (fun _ hk => hk.2) (.slice Ao45 t168.length co45)) (fun _ h_ => h_.1)))); (case side2 => exact (Kd.R_reads' HO170.out).2.1); rintro e w52 ⟨rfl, hb⟩; refine ⟨_, rfl, ?_⟩; have n0_ := Aside0.mk (Kd.R_below (by (with_reducible repeat (first | apply Kd.R_alloc | apply Kd.R_drewN | apply Kd.R_drew)); exact (Kd.R_mono (Kd.R_far (p := ⟨gb171, 3, none⟩) (Kd.R_far (p := ⟨gb171, 2, none⟩) (Kd.R_far (p := ⟨gb171, 1, none⟩) (Kd.R_far (p := ⟨gb171, 0, none⟩) (Kd.R_types HO170.out BK171.out (by decide)) (fun _ hk => hk.2) (.int .u64 t162)) (fun _ hk => hk.2) (.int .i64 (wrap64 (rd l0 t163)))) (fun _ hk => hk.2) (.int .i64 (wrap64 (rd l0 (ji10))))) (fun _ hk => hk.2) (.slice Ao45 t168.length co45)) (fun _ h_ => h_.1))) hb); have n1_ := Aside0.mk (blk_below (g := gb161) (o := .cells #[.int .u64 0, .int .i64 0, .int .i64 0, .slice none 0 0] 60 (0, 0)) (by (with_reducible repeat (first | refine blk_drewN ?_ _ | refine blk_drew ?_ | refine blk_alloc ?_ _)); refine blk_far ?_ NB161_171.out _; (with_reducible repeat (first | refine blk_drewN ?_ _ | refine blk_drew ?_ | refine blk_alloc ?_ _)); refine blk_far ?_ NB161_171.out _; (with_reducible repeat (first | refine blk_drewN ?_ _ | refine blk_drew ?_ | refine blk_alloc ?_ _)); refine blk_far ?_ NB161_171.out _; (with_reducible repeat (first | refine blk_drewN ?_ _ | refine blk_drew ?_ | refine blk_alloc ?_ _)); refine blk_far ?_ NB161_171.out _; (with_reducible repeat (first | refine blk_drewN ?_ _ | refine blk_drew ?_ | refine blk_alloc ?_ _)); exact BK161.out) hb); have n2_ := Aside0.mk (blk_below (g := gb171) (o := .cells #[.int .u64 t162, .int .i64 (wrap64 (rd l0 t163)), .int .i64 (wrap64 (rd l0 (ji10))), .slice Ao45 t168.length co45] 60 (0, 0)) (by (with_reducible repeat (first | refine blk_drewN ?_ _ | refine blk_drew ?_ | refine blk_alloc ?_ _)); refine blk_put (cs := #[.int .u64 t162, .int .i64 (wrap64 (rd l0 t163)), .int .i64 (wrap64 (rd l0 (ji10))), .slice none 0 0]) ?_ 3 _ rfl; (with_reducible repeat (first | refine blk_drewN ?_ _ | refine blk_drew ?_ | refine blk_alloc ?_ _)); refine blk_put (cs := #[.int .u64 t162, .int .i64 (wrap64 (rd l0 t163)), .int .i64 0, .slice none 0 0]) ?_ 2 _ rfl; (with_reducible repeat (first | refine blk_drewN ?_ _ | refine blk_drew ?_ | refine blk_alloc ?_ _)); refine blk_put (cs := #[.int .u64 t162, .int .i64 0, .int .i64 0, .slice none 0 0]) ?_ 1 _ rfl; (with_reducible repeat (first | refine blk_drewN ?_ _ | refine blk_drew ?_ | refine blk_alloc ?_ _)); refine blk_put (cs := #[.int .u64 0, .int .i64 0, .int .i64 0, .slice none 0 0]) ?_ 0 _ rfl; (with_reducible repeat (first | refine blk_drewN ?_ _ | refine blk_drew ?_ | refine blk_alloc ?_ _)); exact BK171.out) hb); have n3_ := Aside0.mk (below_step (by repeat (first | (with_reducible first | exact HB.out | apply below_alloc | apply pw_below_drewN | apply below_drew1 | refine below_set ?_ GE161.out | refine below_set ?_ GE171.out) | exact HB.out)) hb); clear HO170; clear BK161; clear BK171; clear HB; have HO170 := n0_; have BK161 := n1_; have BK171 := n2_; have HB := n3_; clear n0_ n1_ n2_ n3_; (try clear hb); (try clear hb2); (try clear hk); (try clear hi); have hcz53_0 : w52.cell? ⟨gb161, 0, none⟩ = some (.int .u64 0) := (blk_cell BK161.out 0).trans rfl; have hcz53_1 : w52.cell? ⟨gb161, 1, none⟩ = some (.int .i64 0) := (blk_cell BK161.out 1).trans rfl; have hcz53_2 : w52.cell? ⟨gb161, 2, none⟩ = some (.int .i64 0) := (blk_cell BK161.out 2).trans rfl; have hcz53_3 : w52.cell? ⟨gb161, 3, none⟩ = some (.slice none 0 0) := (blk_cell BK161.out 3).trans rfl; have hfz53_0 := blk_frozen BK161.out 0; have hfz53_1 := blk_frozen BK161.out 1; have hfz53_2 := blk_frozen BK161.out 2; have hfz53_3 := blk_frozen BK161.out 3))
          refine bodyPost_ret (results_ct rfl _ _ gb161 60 #[.int .u64 0, .int .i64 0, .int .i64 0, .slice none 0 0] (0, 0) _ rfl (by (with_reducible repeat (first | refine blk_drewN ?_ _ | refine blk_drew ?_ | refine blk_alloc ?_ _)); refine blk_put (cs := #[.int .u64 0, .int .i64 0, .int .i64 0, .slice none 0 0]) ?_ 3 _ rfl; (with_reducible repeat (first | refine blk_drewN ?_ _ | refine blk_drew ?_ | refine blk_alloc ?_ _)); refine blk_put (cs := #[.int .u64 0, .int .i64 0, .int .i64 0, .slice none 0 0]) ?_ 2 _ rfl; (with_reducible repeat (first | refine blk_drewN ?_ _ | refine blk_drew ?_ | refine blk_alloc ?_ _)); refine blk_put (cs := #[.int .u64 0, .int .i64 0, .int .i64 0, .slice none 0 0]) ?_ 1 _ rfl; (with_reducible repeat (first | refine blk_drewN ?_ _ | refine blk_drew ?_ | refine blk_alloc ?_ _)); refine blk_put (cs := #[.int .u64 0, .int .i64 0, .int .i64 0, .slice none 0 0]) ?_ 0 _ rfl; (with_reducible repeat (first | refine blk_drewN ?_ _ | refine blk_drew ?_ | refine blk_alloc ?_ _)); exact BK161.out) Tryz.underlying60 rfl (by kernel_rfl)) rfl ?_
          exact ⟨_, by first | rfl | (simp [] <;> rfl) | (simp only [← hji10, ← hji13]; first | rfl | (simp [] <;> rfl)) | (simp [*] <;> rfl), by first | exact Kd.R_nil _ _ _ _ _ | exact Kd.N_nil _ _ _ _ _ | exact Kd.V_nil _ _ _ _ _ | exact Kd.Q_nil _ _ _ _ _ | exact Kd.S_nil _ _ _ _ _, by repeat (first | (with_reducible first | exact HB.out | apply below_alloc | apply pw_below_drewN | apply below_drew1 | refine below_set ?_ GE161.out | refine below_set ?_ GE171.out) | exact HB.out)⟩
        ·rw [if_neg c15] at H
         exact absurd H (by simp)
       ·rw [if_neg c14] at H
        exact absurd H (by simp)
      ·rw [if_neg c12] at H
       exact absurd H (by simp)
     ·rw [if_neg c11] at H
      exact absurd H (by simp)
    ·rw [if_neg c9] at H
     exact absurd H (by simp)
   ·rw [if_neg c8] at H
    exact absurd H (by simp)
 ·rw [if_neg c3] at H
  have c3b0 : (t164 == 0) = false := beq_eq_false_iff_ne.mpr c3
  have c3b1 : (t164 != 0) = true := bne_iff_ne.mpr c3
  simp only [Option.some.injEq, Prod.mk.injEq] at H
  obtain ⟨rfl, rfl, rfl, rfl, rfl⟩ := H
  go_enter Tryz.func21, Tryz.ntmps21
  go_wp2_with (first | ((with_reducible refine gate_dst (N := 2) rfl ?_); refine box_event ?hg (N := 2) ?hd (cs := #[.int .u64 0, .int .i64 0, .int .i64 0, .slice none 0 0]) (t := 60) ?hr ?_; (case hd => rfl); (case hg => rfl); (case hr => first | (go_simp; done) | (go_simp; rfl)); intro gb161 hg w54 hbox hb; have n0_ := Aside0.mk (below_step (by repeat (first | (with_reducible first | exact HB.out | apply below_alloc | apply pw_below_drewN | apply below_drew1) | exact HB.out)) hb); have n1_ := Aside0.mk (hbox); have n2_ := Aside0.mk ((by rw [hg]; exact (below_size (by repeat (first | (with_reducible first | exact HB.out | apply below_alloc | apply pw_below_drewN | apply below_drew1) | exact HB.out))) : w.heap.size ≤ gb161)); have n3_ := Aside0.mk ((by rw [hg]; exact (below_size (by repeat (first | (with_reducible first | exact HB.out | apply below_alloc | apply pw_below_drewN | apply below_drew1) | exact HB.out))) : w.heap.size ≤ gb161)); clear HB; have HB := n0_; have BK161 := n1_; have GW161 := n2_; have GE161 := n3_; clear n0_ n1_ n2_ n3_; clear hb hbox hg) | ((with_reducible refine gate_callee (f := 40) rfl ?_); refine goesL_ (some 10) rfl rfl Tryz.func40 (by kernel_rfl) rfl #[.slice A0 l0.length c0, .int .i64 0] rfl (by (try simp only [List.map_toArray, List.map_cons, List.map_nil]); first | done | rfl | (simp only [List.length_drop, List.length_take]; rfl)) ?_; (with_reducible refine (vint_Get.calls _ _ l0 0 t162 t163 t164 _ ?side1 ?side2 A2.out).mono ?_); (case side1 => repeat (first | exact (Kd.C_below HR0.out HB.out) | (with_reducible refine Kd.C_alloc ?_ _) | (with_reducible refine Kd.C_drewN ?_ _) | (with_reducible refine Kd.C_drew ?_))); (case side2 => exact HC0.out); rintro e w55 ⟨rfl, hb⟩; refine ⟨_, rfl, ?_⟩; have n0_ := Aside0.mk (blk_below (g := gb161) (o := .cells #[.int .u64 0, .int .i64 0, .int .i64 0, .slice none 0 0] 60 (0, 0)) (by (with_reducible repeat (first | refine blk_drewN ?_ _ | refine blk_drew ?_ | refine blk_alloc ?_ _)); exact BK161.out) hb); have n1_ := Aside0.mk (below_step (by repeat (first | (with_reducible first | exact HB.out | apply below_alloc | apply pw_below_drewN | apply below_drew1 | refine below_set ?_ GE161.out) | exact HB.out)) hb); clear BK161; clear HB; have BK161 := n0_; have HB := n1_; clear n0_ n1_; (try clear hb); (try clear hb2); (try clear hk); (try clear hi); have hcz56_0 : w55.cell? ⟨gb161, 0, none⟩ = some (.int .u64 0) := (blk_cell BK161.out 0).trans rfl; have hcz56_1 : w55.cell? ⟨gb161, 1, none⟩ = some (.int .i64 0) := (blk_cell BK161.out 1).trans rfl; have hcz56_2 : w55.cell? ⟨gb161, 2, none⟩ = some (.int .i64 0) := (blk_cell BK161.out 2).trans rfl; have hcz56_3 : w55.cell? ⟨gb161, 3, none⟩ = some (.slice none 0 0) := (blk_cell BK161.out 3).trans rfl; have hfz56_0 := blk_frozen BK161.out 0; have hfz56_1 := blk_frozen BK161.out 1; have hfz56_2 := blk_frozen BK161.out 2; have hfz56_3 := blk_frozen BK161.out 3))
  refine bodyPost_ret (results_ct rfl _ _ gb161 60 #[.int .u64 0, .int .i64 0, .int .i64 0, .slice none 0 0] (0, 0) _ rfl (by (with_reducible repeat (first | refine blk_drewN ?_ _ | refine blk_drew ?_ | refine blk_alloc ?_ _)); refine blk_put (cs := #[.int .u64 0, .int .i64 0, .int .i64 0, .slice none 0 0]) ?_ 3 _ rfl; (with_reducible repeat (first | refine blk_drewN ?_ _ | refine blk_drew ?_ | refine blk_alloc ?_ _)); refine blk_put (cs := #[.int .u64 0, .int .i64 0, .int .i64 0, .slice none 0 0]) ?_ 2 _ rfl; (with_reducible repeat (first | refine blk_drewN ?_ _ | refine blk_drew ?_ | refine blk_alloc ?_ _)); refine blk_put (cs := #[.int .u64 0, .int .i64 0, .int .i64 0, .slice none 0 0]) ?_ 1 _ rfl; (with_reducible repeat (first | refine blk_drewN ?_ _ | refine blk_drew ?_ | refine blk_alloc ?_ _)); refine blk_put (cs := #[.int .u64 0, .int .i64 0, .int .i64 0, .slice none 0 0]) ?_ 0 _ rfl; (with_reducible repeat (first | refine blk_drewN ?_ _ | refine blk_drew ?_ | refine blk_alloc ?_ _)); exact BK161.out) Tryz.underlying60 rfl (by kernel_rfl)) rfl ?_
  exact ⟨_, by first | rfl | (simp [] <;> rfl) | (simp [*] <;> rfl), by first | exact Kd.R_nil _ _ _ _ _ | exact Kd.N_nil _ _ _ _ _ | exact Kd.V_nil _ _ _ _ _ | exact Kd.Q_nil _ _ _ _ _ | exact Kd.S_nil _ _ _ _ _, by repeat (first | (with_reducible first | exact HB.out | apply below_alloc | apply pw_below_drewN | apply below_drew1 | refine below_set ?_ GE161.out) | exact HB.out)⟩
end Go.Proofs.YteadamkkbgnpeaaGreat.F
end OfF1
section OfF2
namespace Go.Proofs.YteadamkkbgnpeaaGreat.F
open Go.RowKit YteadamkkbgnpeaaGreatW.PrintWords YteadamkkbgnpeaaGreatW.PrintLast YteadamkkbgnpeaaGreatW.PrintMore QTC
open Go (run_slice_lhm)
attribute [local go_sem] max2_int min2_int max_two min_two max_three min_three max_four min_four
set_option linter.unusedVariables false
set_option linter.unusedSimpArgs false
theorem info60 : (Tryz.prog.info? 60).map (fun i => (i.zero, i.size, i.bytes)) = some (some (.agg #[(.int .u64 0), (.int .i64 0), (.int .i64 0), (.slice none 0 0)]), 4, 48) := by kernel_rfl
section
variable {P : Program} {α : Type}
theorem print_mid3_of (enc : α → Value) (d : α) (t e : TypeId) (kl kh km : IntKind) {i : TypeInfo} (ht : P.underlying t = some (.slice e)) (hi : P.info? e = some i) (hsz : i.size = 1) (A : Option Addr) (c : Nat) (xs : List α) (a b : Int) (h0 : 0 ≤ a) (h1 : a ≤ b) (hm : b ≤ xs.length) (hc : xs.length ≤ c) :
  ∃ A' : Option Addr, (∀ W : World, (Instr.slice t (.slice A xs.length c) (some (.int kl a)) (some (.int kh b)) (some (.int km b))).run P W = .ok (.slice A' ((xs.take b.toNat).drop a.toNat).length (b.toNat - a.toNat)) W) ∧
   (∀ w : World, ReadsOf enc d w A xs.length xs → ReadsOf enc d w A' ((xs.take b.toNat).drop a.toNat).length ((xs.take b.toNat).drop a.toNat)) ∧ ((xs.take b.toNat).drop a.toNat).length ≤ b.toNat - a.toNat := by
 have hlt : (xs.take b.toNat).length = b.toNat := by rw [List.length_take]; omega
 have hl : ((xs.take b.toNat).drop a.toNat).length = b.toNat - a.toNat := by rw [List.length_drop, hlt]
 refine ⟨if b.toNat = a.toNat then A else A.map (·.add a.toNat), fun W => ?_, fun w h => ?_, by rw [hl]; omega⟩
 ·have hel : P.elem t = e := by simp [Program.elem, ht]
  have hu : P.underlying t = some (.slice (P.elem t)) := by rw [hel]; exact ht
  rw [run_slice_lhm W t A xs.length c hu kl kh km a b b h0 h1 (by omega) (by omega), hel, hl]
  simp [sizeOf, typeInfo, hi, hsz, sliced, Result.andThen]
 ·have h2 := (h.take_ b.toNat (by omega)).drop_ (c := b.toNat) a.toNat (by omega) (by omega)
  rw [hl]
  exact h2
end
structure S60 where
 f0 : Int
 f1 : Int
 f2 : Int
 f3 : (List Int)
def z60 : S60 := ⟨(0 : Int), (0 : Int), (0 : Int), ([] : List Int)⟩
def k60 : Kd S60 := Kd.iso (Kd.pair (Kd.int .u64) (Kd.pair (Kd.int .i64) (Kd.pair (Kd.int .i64) (Kd.slice 5 (Kd.int .u8))))) (fun x : S60 => (x.f0, x.f1, x.f2, x.f3))
theorem k60_open {w : World} {x : S60} {cs : List Value} (h : k60.K w x cs) : ∃ A3 c3, cs = [.int .u64 x.f0, .int .i64 x.f1, .int .i64 x.f2, .slice A3 x.f3.length c3] ∧ x.f3.length ≤ c3 ∧ (Kd.int .u8).C w A3 x.f3.length x.f3 := by
 obtain ⟨_, _, rfl, rfl, ⟨_, _, rfl, rfl, ⟨_, _, rfl, rfl, ⟨A3, c3, rfl, l3, g3⟩⟩⟩⟩ := h
 exact ⟨A3, c3, rfl, l3, g3⟩
theorem k60_mkM (w : World) (base : Nat) (ok : Nat → Prop) (x : S60) {v3 : Value} (g3 : (Kd.int .u8).R 5 w base ok v3 x.f3) : k60.M w base ok x [.int .u64 x.f0, .int .i64 x.f1, .int .i64 x.f2, v3] := ⟨[.int .u64 x.f0], [.int .i64 x.f1, .int .i64 x.f2, v3], rfl, rfl, ⟨[.int .i64 x.f1], [.int .i64 x.f2, v3], rfl, rfl, ⟨[.int .i64 x.f2], [v3], rfl, rfl, ⟨v3, rfl, g3⟩⟩⟩⟩
def frag_Split.l0 : Nat → Int → List Int → Int → List (S60) → Int → Int → Option ((List (S60)) × Int)
 | 0, _, _, _, _, _, _ => none
 | k + 1, x0, x1, x6, x7, x21, x22 => if x22 < x21 then (if 0 ≤ (wrap64 (x22 * 480)) then (if (wrap64 (x22 * 480)) ≤ (mn (wrap64 ((wrap64 (x22 + 1)) * 480)) (x1.length : Int)) then (if (mn (wrap64 ((wrap64 (x22 + 1)) * 480)) (x1.length : Int)) ≤ (x1.length : Int) then ((slices_Clone_byte_byte.f ((x1.take ((mn (wrap64 ((wrap64 (x22 + 1)) * 480)) (x1.length : Int)) : Int).toNat).drop ((wrap64 (x22 * 480)) : Int).toNat)).bind fun t115 => (if x7.length < 2932031007402 then (frag_Split.l0 k x0 x1 x6 (x7 ++ [(⟨x0, x22, x6, t115⟩ : S60)]) x21 (wrap64 (x22 + 1))) else (none))) else (none)) else (none)) else (none)) else (some (x7, 0))
def frag_Split.f (k : Nat) (a0 : Int) (l1 : List Int) : Option ((List (S60)) × Int) := (frag_Count.f (l1.length : Int)).bind fun t112 => (if t112 = 0 then (some (([] : List (S60)), 2)) else ((frag_isID.f a0).bind fun t113 => (if t113 = true then (frag_Split.l0 k a0 l1 t112 ([] : List (S60)) t112 0) else (some (([] : List (S60)), 1)))))
set_option maxHeartbeats 8000000 in
set_option maxRecDepth 100000 in
theorem frag_Split.calls (k : Nat) (a0 : Int) (A1 : Option Addr) (c1 : Nat) (l1 : List Int) (r1 : List (S60)) (r2 : Int) (w : World) (hr1 : Kd.C (Kd.int .u8) w A1 l1.length l1) (hc1 : l1.length ≤ c1) (h : frag_Split.f k a0 l1 = some (r1, r2)) :
  Calls Tryz.prog 15 #[.int .u64 a0, .slice A1 l1.length c1] w fun e w' => ∃ v0_ : Value, e = .returned (.tuple #[v0_, .int .i64 r2]) ∧ Kd.S k60 60 w' w.heap.size (fun _ => True) v0_ r1 ∧ Below w.heap.size w w' := by
 have hu60 := Tryz.underlying60
 have HR1 := Aside0.mk hr1
 have HC1 := Aside0.mk hc1
 clear hr1 hc1
 have HB := Aside0.mk (Below.refl w.heap.size w)
 have H : ((frag_Count.f (l1.length : Int)).bind fun t112 => (if t112 = 0 then (some (([] : List (S60)), 2)) else ((frag_isID.f a0).bind fun t113 => (if t113 = true then (frag_Split.l0 k a0 l1 t112 ([] : List (S60)) t112 0) else (some (([] : List (S60)), 1)))))) = some (r1, r2) := h
 clear h
 replace H := Option.bind_eq_some_iff.mp H
 obtain ⟨t112, A30, H⟩ := H
 replace H : (if t112 = 0 then (some (([] : List (S60)), 2)) else ((frag_isID.f a0).bind fun t113 => (if t113 = true then (frag_Split.l0 k a0 l1 t112 ([] : List (S60)) t112 0) else (some (([] : List (S60)), 1))))) = some (r1, r2) := H
 have A3 := Aside0.mk A30
 clear A30
 by_cases c4 : t112 = 0
 ·rw [if_pos c4] at H
  have c4b0 : (t112 == 0) = true := beq_iff_eq.mpr c4
  have c4b1 : (t112 != 0) = false := bne_eq_false_iff_eq.mpr c4
  clear c4
  simp only [Option.some.injEq, Prod.mk.injEq] at H
  obtain ⟨rfl, rfl⟩ := H
  go_enter Tryz.func15, Tryz.ntmps15
  go_wp2_with (first | ((with_reducible refine gate_callee (f := 27) rfl ?_); refine goesL_ (some 13) rfl rfl Tryz.func27 (by kernel_rfl) rfl #[.int .i64 (l1.length : Int)] rfl (by (try simp only [List.map_toArray, List.map_cons, List.map_nil]); first | done | rfl | (simp only [List.length_drop, List.length_take]; rfl)) ?_; (with_reducible refine (frag_Count.calls (l1.length : Int) t112 _ A3.out).mono ?_); rintro e w5 ⟨rfl, hb⟩; refine ⟨_, rfl, ?_⟩; have n0_ := Aside0.mk (below_step (by repeat (first | (with_reducible first | exact HB.out | apply below_alloc | apply pw_below_drewN | apply below_drew1) | exact HB.out)) hb); clear HB; have HB := n0_; clear n0_; (try clear hb); (try clear hb2); (try clear hk); (try clear hi)))
  go_ret2
  exact ⟨_, by first | rfl | (simp [] <;> rfl) | (simp [*] <;> rfl), by first | exact Kd.S_nil _ _ _ _ _ | exact Kd.N_nil _ _ _ _ _ | exact Kd.V_nil _ _ _ _ _ | exact Kd.Q_nil _ _ _ _ _ | exact Kd.R_nil _ _ _ _ _, by repeat (first | (with_reducible first | exact HB.out | apply below_alloc | apply pw_below_drewN | apply below_drew1) | exact HB.out)⟩
 ·rw [if_neg c4] at H
  have c4b0 : (t112 == 0) = false := beq_eq_false_iff_ne.mpr c4
  have c4b1 : (t112 != 0) = true := bne_iff_ne.mpr c4
  replace H := Option.bind_eq_some_iff.mp H
  obtain ⟨t113, A60, H⟩ := H
  replace H : (if t113 = true then (frag_Split.l0 k a0 l1 t112 ([] : List (S60)) t112 0) else (some (([] : List (S60)), 1))) = some (r1, r2) := H
  have A6 := Aside0.mk A60
  clear A60
  by_cases c7 : t113 = true
  ·subst c7
   have H1 : (frag_Split.l0 k a0 l1 t112 ([] : List (S60)) t112 0) = some (r1, r2) := by rw [if_pos rfl] at H; exact H
   clear H
   have H := H1
   clear H1
   have H' := Aside0.mk H
   clear H
   go_enter Tryz.func15, Tryz.ntmps15
   go_wp2_with (first | ((with_reducible refine gate_callee (f := 27) rfl ?_); refine goesL_ (some 13) rfl rfl Tryz.func27 (by kernel_rfl) rfl #[.int .i64 (l1.length : Int)] rfl (by (try simp only [List.map_toArray, List.map_cons, List.map_nil]); first | done | rfl | (simp only [List.length_drop, List.length_take]; rfl)) ?_; (with_reducible refine (frag_Count.calls (l1.length : Int) t112 _ A3.out).mono ?_); rintro e w8 ⟨rfl, hb⟩; refine ⟨_, rfl, ?_⟩; have n0_ := Aside0.mk (below_step (by repeat (first | (with_reducible first | exact HB.out | apply below_alloc | apply pw_below_drewN | apply below_drew1) | exact HB.out)) hb); clear HB; have HB := n0_; clear n0_; (try clear hb); (try clear hb2); (try clear hk); (try clear hi)) | ((with_reducible refine gate_callee (f := 28) rfl ?_); refine goesL_ (some 19) rfl rfl Tryz.func28 (by kernel_rfl) rfl #[.int .u64 a0] rfl (by (try simp only [List.map_toArray, List.map_cons, List.map_nil]); first | done | rfl | (simp only [List.length_drop, List.length_take]; rfl)) ?_; (with_reducible refine (frag_isID.calls a0 true _ A6.out).mono ?_); rintro e w' ⟨rfl, ⟨nd, rfl⟩⟩; refine ⟨_, rfl, ?_⟩))
   go_loopg [7, 22] k (fun kq v7 v22 w' => ∃ (x7_1 : List (S60)) (x22_1 : Int), v22 = .int .i64 x22_1 ∧ Aside0 (frag_Split.l0 kq a0 l1 t112 x7_1 t112 x22_1 = some (r1, r2)) ∧ Aside0 (kq ≤ k) ∧ Aside0 (Kd.S k60 60 w' w.heap.size (fun _ => True) v7 x7_1) ∧ Aside0 (Below w.heap.size w w'))
   case atStart => exact ⟨(([] : List (S60))), (0), (by first | rfl | (simp; done) | (simp [*]; done)), H', ⟨Nat.le_refl _⟩, ⟨by first | exact Kd.S_nil _ _ _ _ _ | exact Kd.N_nil _ _ _ _ _ | exact Kd.V_nil _ _ _ _ _ | exact Kd.Q_nil _ _ _ _ _ | exact Kd.R_nil _ _ _ _ _⟩, ⟨by repeat (first | (with_reducible first | exact HB.out | apply below_alloc | apply pw_below_drewN | apply below_drew1) | exact HB.out)⟩⟩
   case round =>
    clear H'
    try clear c1
    try clear c2
    try clear p2
    try clear c4
    try clear c4b0
    try clear c4b1
    try clear c7
    obtain ⟨x7_1, x22_1, rfl, HA, HK1, HO_7, HB⟩ := hrel
    cases gk with
    | zero => exact absurd HA.out (by simp [frag_Split.l0])
    | succ k1 =>
     have H := HA.out
     clear HA
     simp only [frag_Split.l0] at H
     by_cases c9 : x22_1 < t112
     ·rw [if_pos c9] at H
      have c9b0 : decide (x22_1 < t112) = true := decide_eq_true c9
      clear c9
      obtain ⟨ji10, hji10⟩ : ∃ j_ : Int, (mn (wrap64 ((wrap64 (x22_1 + 1)) * 480)) (l1.length : Int)) = j_ := ⟨_, rfl⟩
      replace H : (if 0 ≤ (wrap64 (x22_1 * 480)) then (if (wrap64 (x22_1 * 480)) ≤ (ji10) then (if (ji10) ≤ (l1.length : Int) then ((slices_Clone_byte_byte.f ((l1.take ((ji10) : Int).toNat).drop ((wrap64 (x22_1 * 480)) : Int).toNat)).bind fun t115 => (if x7_1.length < 2932031007402 then (frag_Split.l0 k1 a0 l1 t112 (x7_1 ++ [(⟨a0, x22_1, t112, t115⟩ : S60)]) t112 (wrap64 (x22_1 + 1))) else (none))) else (none)) else (none)) else (none)) = some (r1, r2) := by first | (rw [hji10] at H; exact H) | (simp only [hji10] at H ⊢; exact H)
      have hji10_ : (if (l1.length : Int) < (wrap64 ((wrap64 (x22_1 + 1)) * 480)) then (l1.length : Int) else (wrap64 ((wrap64 (x22_1 + 1)) * 480))) = ji10 := hji10
      obtain ⟨ji11, hji11⟩ : ∃ j_ : Int, (wrap64 (x22_1 * 480)) = j_ := ⟨_, rfl⟩
      replace H : (if 0 ≤ (ji11) then (if (ji11) ≤ (ji10) then (if (ji10) ≤ (l1.length : Int) then ((slices_Clone_byte_byte.f ((l1.take ((ji10) : Int).toNat).drop ((ji11) : Int).toNat)).bind fun t115 => (if x7_1.length < 2932031007402 then (frag_Split.l0 k1 a0 l1 t112 (x7_1 ++ [(⟨a0, x22_1, t112, t115⟩ : S60)]) t112 (wrap64 (x22_1 + 1))) else (none))) else (none)) else (none)) else (none)) = some (r1, r2) := by first | (rw [hji11] at H; exact H) | (simp only [hji11] at H ⊢; exact H)
      have hji11w : (IntKind.i64.wrap (x22_1 * 480)) = ji11 := (i64_w _).trans hji11
      by_cases c12 : 0 ≤ (ji11)
      ·rw [if_pos c12] at H
       have c12b0 := eq_true c12
       have c12b1 : decide (0 ≤ (ji11)) = true := decide_eq_true c12
       clear c12
       by_cases c13 : (ji11) ≤ (ji10)
       ·rw [if_pos c13] at H
        have c13b0 := eq_true c13
        have c13b1 : decide ((ji11) ≤ (ji10)) = true := decide_eq_true c13
        clear c13
        by_cases c14 : (ji10) ≤ (l1.length : Int)
        ·rw [if_pos c14] at H
         have c14b0 := eq_true c14
         have c14b1 : decide ((ji10) ≤ (l1.length : Int)) = true := decide_eq_true c14
         clear c14
         replace H := Option.bind_eq_some_iff.mp H
         obtain ⟨t115, A150, H⟩ := H
         replace H : (if x7_1.length < 2932031007402 then (frag_Split.l0 k1 a0 l1 t112 (x7_1 ++ [(⟨a0, x22_1, t112, t115⟩ : S60)]) t112 (wrap64 (x22_1 + 1))) else (none)) = some (r1, r2) := H
         have A15 := Aside0.mk A150
         clear A150
         by_cases c16 : x7_1.length < 2932031007402
         ·rw [if_pos c16] at H
          have LMc16 := Aside0.mk c16
          clear c16
          obtain ⟨y118, hy118⟩ : ∃ y_ : List (S60), y_ = (x7_1 ++ [(⟨a0, x22_1, t112, t115⟩ : S60)]) := ⟨_, rfl⟩
          replace H : (frag_Split.l0 k1 a0 l1 t112 y118 t112 (wrap64 (x22_1 + 1))) = some (r1, r2) := by first | (rw [hy118]; with_reducible exact H) | (have H2_ := (Option.bind_some _ _).symm.trans H; rw [hy118]; with_reducible exact H2_) | (have H2_ := (Option.bind_some _ _).symm.trans H; with_reducible exact H2_) | with_reducible exact H | (rw [hy118]; exact H) | exact H
          have Ny118 := Aside0.mk hy118
          clear hy118
          have H' := Aside0.mk H
          clear H
          obtain ⟨i017, hi017, _, hsz17, _⟩ := info_parts info5
          obtain ⟨A17, hcut17, hA17, hC17⟩ := print_mid3_of (P := Tryz.prog) (Value.int .u8) 0 22 5 .i64 .i64 .i64 Tryz.underlying22 hi017 hsz17 A1 c1 l1 (ji11) (ji10) (of_decide_eq_true (by first | (with_reducible assumption) | assumption)) (by first | omega | exact of_decide_eq_true (by first | (with_reducible assumption) | assumption)) (of_decide_eq_true (by first | (with_reducible assumption) | assumption)) HC1.out
          have HR114 := Aside0.mk (Kd.C_of_reads (h1 := fun _ => rfl) (hA17 _ (Kd.reads_of_C HR1.out)))
          have HC114 := Aside0.mk hC17
          clear hA17 hC17 hi017 hsz17
          go_wp2_with (first | ((with_reducible refine gate_callee (f := 29) rfl ?_); refine goesL_ (some 42) rfl rfl Tryz.func29 (by kernel_rfl) rfl #[.slice A17 ((l1.take ((ji10) : Int).toNat).drop ((ji11) : Int).toNat).length ((ji10).toNat - (ji11).toNat)] rfl (by (try simp only [List.map_toArray, List.map_cons, List.map_nil]); first | done | (rw [show ((l1.take ((ji10) : Int).toNat).drop ((ji11) : Int).toNat).length = ((ji10).toNat - (ji11).toNat) from (by rw [List.length_drop, List.length_take]; have h_ : ((ji10) : Int) ≤ (l1.length : Int) := of_decide_eq_true (by first | (with_reducible assumption) | assumption); omega)] <;> rfl) | (simp only [hji10, hji11]; rfl) | rfl | (simp only [List.length_drop, List.length_take]; rfl)) ?_; (with_reducible refine (slices_Clone_byte_byte.calls _ _ ((l1.take ((ji10) : Int).toNat).drop ((ji11) : Int).toNat) t115 _ ?side1 ?side2 A15.out).mono ?_); (case side1 => repeat (first | exact (Kd.C_below HR114.out HB.out) | (with_reducible refine Kd.C_alloc ?_ _) | (with_reducible refine Kd.C_drewN ?_ _) | (with_reducible refine Kd.C_drew ?_))); (case side2 => exact HC114.out); rintro e w18 ⟨v116, rfl, ho0, hb⟩; refine ⟨_, rfl, ?_⟩; have n0_ := Aside0.mk (Kd.S_elder' (by (with_reducible repeat (first | apply Kd.S_alloc | apply Kd.S_drewN | apply Kd.S_drew)); exact HO_7.out) (Kd.R_base ho0) hb); have n1_ := Aside0.mk (Kd.R_lower ho0 (below_size (by repeat (first | (with_reducible first | exact HB.out | apply below_alloc | apply pw_below_drewN | apply below_drew1) | exact HB.out)))); have n2_ := Aside0.mk (below_step (by repeat (first | (with_reducible first | exact HB.out | apply below_alloc | apply pw_below_drewN | apply below_drew1) | exact HB.out)) hb); clear HO_7; clear HB; have HO_7 := n0_; have HO117 := n1_; have HB := n2_; clear n0_ n1_ n2_; (try clear hb); (try clear hb2); (try clear hk); (try clear hi); (try clear ho0); obtain ⟨Ao19, co19, eo19⟩ := Kd.R_slice HO117.out; subst eo19) | ((with_reducible refine gate_builtin (b := .append) (xs := #[.tmp 33, .tmp 44]) rfl ?_); at_builtin; refine Kd.S_append k60 (w0 := w) w.heap.size rfl (.tmp 33) (.tmp 44) 54 60 (.agg #[(.int .u64 0), (.int .i64 0), (.int .i64 0), (.slice none 0 0)]) 48 rfl Tryz.underlying54 info60 rfl (by decide) (by omega) u7 x7_1 (⟨a0, x22_1, t112, t115⟩ : S60) [.int .u64 a0, .int .i64 x22_1, .int .i64 t112, .slice Ao19 t115.length co19] (fun _ => True) (fun k_ => some k_ = (.slice Ao19 t115.length co19 : Value).ownBlock) rfl rfl ?aP (fun k_ hk_ => ((Kd.R_mono (ok' := fun k_ => ((fun _ => True)) k_ ∧ some k_ ≠ (u7 : Value).ownBlock) (Kd.R_apart' (HO117.out) (Kd.S_typed HO_7.out) (by decide)) (fun k_ hk => ⟨trivial, hk.2⟩))).1 k_ hk_.symm) ?aF ?aO ?aB ?aS ?aL ?_; (case aP => exact k60_mkM _ _ _ (⟨a0, x22_1, t112, t115⟩ : S60) (Kd.R_mono (Kd.R_tight rfl (Kd.R_mono (ok' := fun k_ => ((fun _ => True)) k_ ∧ some k_ ≠ (u7 : Value).ownBlock) (Kd.R_apart' (HO117.out) (Kd.S_typed HO_7.out) (by decide)) (fun k_ hk => ⟨trivial, hk.2⟩))) (fun _ h_ => h_))); (case aB => exact (by repeat (first | (with_reducible first | exact HB.out | apply below_alloc | apply pw_below_drewN | apply below_drew1) | exact HB.out))); (case aF => exact (fun _ _ => trivial)); (case aO => exact (by (with_reducible repeat (first | apply Kd.S_alloc | apply Kd.S_drewN | apply Kd.S_drew)); exact Kd.S_mono HO_7.out (fun k_ hk => ⟨trivial, fun e_ => hk.2 e_⟩))); (case aS => exact (below_size (by repeat (first | (with_reducible first | exact HB.out | apply below_alloc | apply pw_below_drewN | apply below_drew1) | exact HB.out)))); (case aL => have := LMc16.out; omega); intro v119 w20 ho hb hg hat; rw [← Ny118.out] at ho; have n0_ := Aside0.mk (hb); have n1_ := Aside0.mk (ho); clear HB; clear HO_7; clear HO117; have HB := n0_; have HO120 := n1_; clear n0_ n1_; clear ho hb hg hat))
          go_roundg k1
          case measure => have := HK1.out; omega
          case rel => exact ⟨(y118), (wrap64 (x22_1 + 1)), (by first | rfl | (simp; done) | (simp [*]; done)), H', ⟨by have := HK1.out; omega⟩, ⟨by (with_reducible repeat (first | apply Kd.S_alloc | apply Kd.S_drewN | apply Kd.S_drew)); exact HO120.out⟩, ⟨by repeat (first | (with_reducible first | exact HB.out | apply below_alloc | apply pw_below_drewN | apply below_drew1) | exact HB.out)⟩⟩
         ·rw [if_neg c16] at H
          exact absurd H (by simp)
        ·rw [if_neg c14] at H
         exact absurd H (by simp)
       ·rw [if_neg c13] at H
        exact absurd H (by simp)
      ·rw [if_neg c12] at H
       exact absurd H (by simp)
     ·rw [if_neg c9] at H
      have c9b0 : decide (x22_1 < t112) = false := decide_eq_false c9
      clear c9
      simp only [Option.some.injEq, Prod.mk.injEq] at H
      obtain ⟨rfl, rfl⟩ := H
      go_wp2
      go_ret2
      exact ⟨_, by first | rfl | (simp [] <;> rfl) | (simp [*] <;> rfl), by (with_reducible repeat (first | apply Kd.S_alloc | apply Kd.S_drewN | apply Kd.S_drew)); exact HO_7.out, by repeat (first | (with_reducible first | exact HB.out | apply below_alloc | apply pw_below_drewN | apply below_drew1) | exact HB.out)⟩
  ·replace c7 := Bool.eq_false_iff.mpr c7
   subst c7
   have H1 : (some (([] : List (S60)), 1)) = some (r1, r2) := by rw [if_neg (show ¬ (false = true) by decide)] at H; exact H
   clear H
   have H := H1
   clear H1
   simp only [Option.some.injEq, Prod.mk.injEq] at H
   obtain ⟨rfl, rfl⟩ := H
   go_enter Tryz.func15, Tryz.ntmps15
   go_wp2_with (first | ((with_reducible refine gate_callee (f := 27) rfl ?_); refine goesL_ (some 13) rfl rfl Tryz.func27 (by kernel_rfl) rfl #[.int .i64 (l1.length : Int)] rfl (by (try simp only [List.map_toArray, List.map_cons, List.map_nil]); first | done | rfl | (simp only [List.length_drop, List.length_take]; rfl)) ?_; (with_reducible refine (frag_Count.calls (l1.length : Int) t112 _ A3.out).mono ?_); rintro e w21 ⟨rfl, hb⟩; refine ⟨_, rfl, ?_⟩; have n0_ := Aside0.mk (below_step (by repeat (first | (with_reducible first | exact HB.out | apply below_alloc | apply pw_below_drewN | apply below_drew1) | exact HB.out)) hb); clear HB; have HB := n0_; clear n0_; (try clear hb); (try clear hb2); (try clear hk); (try clear hi)) | ((with_reducible refine gate_callee (f := 28) rfl ?_); refine goesL_ (some 19) rfl rfl Tryz.func28 (by kernel_rfl) rfl #[.int .u64 a0] rfl (by (try simp only [List.map_toArray, List.map_cons, List.map_nil]); first | done | rfl | (simp only [List.length_drop, List.length_take]; rfl)) ?_; (with_reducible refine (frag_isID.calls a0 false _ A6.out).mono ?_); rintro e w' ⟨rfl, ⟨nd, rfl⟩⟩; refine ⟨_, rfl, ?_⟩))
   go_ret2
   exact ⟨_, by first | rfl | (simp [] <;> rfl) | (simp [*] <;> rfl), by first | exact Kd.S_nil _ _ _ _ _ | exact Kd.N_nil _ _ _ _ _ | exact Kd.V_nil _ _ _ _ _ | exact Kd.Q_nil _ _ _ _ _ | exact Kd.R_nil _ _ _ _ _, by repeat (first | (with_reducible first | exact HB.out | apply below_alloc | apply pw_below_drewN | apply below_drew1) | exact HB.out)⟩
end Go.Proofs.YteadamkkbgnpeaaGreat.F
end OfF2
section OfF3
set_option linter.unusedVariables false
set_option linter.unusedSimpArgs false
namespace Go.Proofs.YteadamkkbgnpeaaGreat.F
open Go.RowKit YteadamkkbgnpeaaGreatW.PrintLast A B S QTC YteadamkkbgnpeaaGreatW.PrintWords YteadamkkbgnpeaaGreatW.PrintMore
theorem size60 : (Tryz.prog.info? 60).map (·.size) = some 4 := by kernel_rfl
/-- A part that may be (of a small frame). -/
def pOk (id i n : Int) (l : List Int) : Prop := (1 ≤ id ∧ id < 64) ∧ (0 ≤ i ∧ i < n ∧ n ≤ 4) ∧ l.length ≤ 480 ∧ (l.length = 0 → n = 1) ∧ (l.length = 480 ∨ i = n - 1)
theorem right_t {id i n : Int} {l : List Int} (h : pOk id i n l) : frag_Right.f 1 id i n l = some true := by
 obtain ⟨⟨h1, h2⟩, ⟨h3, h4, h5⟩, h6, h7, h8⟩ := h
 have hi : frag_isID.f id = some true := by
  unfold frag_isID.f
  rw [if_pos (show id ≥ 1 from h1), decide_eq_true (by omega)]
 have hw : wrap64 (n - 1) = n - 1 := by unfold wrap64; omega
 unfold frag_Right.f
 rw [hi, Option.bind_some, if_pos rfl, if_neg (by omega), if_neg (by omega), if_neg (by omega), if_neg (by omega), decide_eq_false (by omega)]
 simp only [frag_Right.j0]
 rw [if_neg (by decide), hw]
 by_cases e0 : (l.length : Int) = 0
 ·rw [if_pos e0, h7 (by omega)]; rfl
 ·rw [if_neg e0]
  by_cases e1 : (l.length : Int) = 480
  ·rw [if_pos e1]
  ·rw [if_neg e1, show i = n - 1 from by omega]; simp
theorem right_calls (id i n : Int) (A : Option Addr) (c L : Nat) {l : List Int} (hL : l.length = L) (hc : L ≤ c) (h : pOk id i n l) (w : World) (hC : (Kd.int .u8).C w A l.length l) :
  Calls Tryz.prog 32 #[.agg #[.int .u64 id, .int .i64 i, .int .i64 n, .slice A L c]] w fun e w' => e = .returned (.bool true) ∧ Below w.heap.size w w' := by
 have h1 := frag_Right.calls 1 id i n A c l true w hC (by omega) (right_t h)
 rw [hL] at h1
 exact h1
/-- Join's own two variables, on the way. -/
structure JS (w0 w : World) (gi gl : Nat) (i : Int) (A : Option Addr) (n c : Nat) : Prop where
 bel : Below w0.heap.size w0 w
 bi : w.heap[gi]? = some (.cells #[.int .i64 i] 3 (0, 0))
 bl : w.heap[gl]? = some (.cells #[.slice A n c] 54 (0, 0))
 hi : w0.heap.size ≤ gi ∧ w0.heap.size ≤ gl ∧ gi ≠ gl
theorem JS.i0 {w0 w : World} {gi gl n c : Nat} {i : Int} {A : Option Addr} (h : JS w0 w gi gl i A n c) : w.cell? ⟨gi, 0, none⟩ = some (.int .i64 i) := (blk_cell h.bi 0).trans rfl
theorem JS.l0 {w0 w : World} {gi gl n c : Nat} {i : Int} {A : Option Addr} (h : JS w0 w gi gl i A n c) : w.cell? ⟨gl, 0, none⟩ = some (.slice A n c) := (blk_cell h.bl 0).trans rfl
theorem JS.below {w0 w w1 : World} {gi gl n c : Nat} {i : Int} {A : Option Addr} (h : JS w0 w gi gl i A n c) (k : Below w.heap.size w w1) : JS w0 w1 gi gl i A n c :=
 ⟨below_step h.bel k, (k.block gi (blk_lt h.bi)).trans h.bi, (k.block gl (blk_lt h.bl)).trans h.bl, h.hi⟩
theorem JS.set {w0 w : World} {gi gl n c : Nat} {i : Int} {A : Option Addr} (h : JS w0 w gi gl i A n c) (j : Int) : JS w0 (w.setCell ⟨gi, 0, none⟩ (.int .i64 j)) gi gl j A n c :=
 ⟨h.bel.setCell (p := ⟨gi, 0, none⟩) h.hi.1 _, blk_set h.bi 0 _, (Below.heap_setCell w _ _ gl (fun e => h.hi.2.2 e.symm)).trans h.bl, h.hi⟩
theorem cell_0 {w : World} {g t : Nat} {a b d e : Value} (h : w.heap[g]? = some (.cells #[a, b, d, e] t (0, 0))) : w.cell? ⟨g, 0, none⟩ = some a := (blk_cell h 0).trans rfl
theorem cell_1 {w : World} {g t : Nat} {a b d e : Value} (h : w.heap[g]? = some (.cells #[a, b, d, e] t (0, 0))) : w.cell? ⟨g, 1, none⟩ = some b := (blk_cell h 1).trans rfl
theorem cell_2 {w : World} {g t : Nat} {a b d e : Value} (h : w.heap[g]? = some (.cells #[a, b, d, e] t (0, 0))) : w.cell? ⟨g, 2, none⟩ = some d := (blk_cell h 2).trans rfl
theorem cell_3 {w : World} {g t : Nat} {a b d e : Value} (h : w.heap[g]? = some (.cells #[a, b, d, e] t (0, 0))) : w.cell? ⟨g, 3, none⟩ = some e := (blk_cell h 3).trans rfl
def F_lit.T2 : Bool × List (List Nat × List Nat) := (true, [([], []), ([0], [0]), ([1], [1]), ([2, 1], [2]), ([3], [3]), ([4, 3], [3, 4]), ([3], [3]), ([6, 3], [3, 6]), ([7, 3], [3, 7]), ([8, 3], [3, 8]), ([5, 9, 3], [3, 5, 9]), ([3, 10], [3, 10]), ([11, 3], [11]), ([12], [12]), ([13, 12], [12, 13]), ([12], [12]), ([15, 12], [12, 15]), ([14, 16, 12], [12, 14, 16]), ([12, 17], [12, 17]), ([18, 12], [18]), ([19], [19]), ([20, 19], [19, 20]), ([19], [19]), ([22, 19], [19, 22]), ([21, 23, 19], [19, 21, 23]), ([19, 24], [19, 24]), ([25, 19, 0, 1, 2, 3, 4, 5, 6, 7, 8, 9, 10, 11, 12, 13, 14, 15, 16, 17, 18, 19, 20, 21, 22, 23, 24, 25], [25])])
def F_lit.B2 : List Nat := [0, 1, 3, 7, 15, 31, 15, 79, 207, 463, 1023, 2047, 4095, 8191, 16383, 8191, 40959, 131071, 262143, 524287, 1048575, 2097151, 1048575, 5242879, 16777215, 33554431, 67108863]
theorem F_lit.tab2 : rtab .any (opsOf Tryz.f60 2) = F_lit.T2 := by kernel_rfl
theorem F_lit.bits2 : waitsOk F_lit.T2.2 F_lit.B2 = true := by kernel_rfl
set_option maxHeartbeats 8000000 in
set_option maxRecDepth 100000 in
theorem lit_calls (id : Int) (n : Nat) (gi gl : Nat) (ad : Addr) (c : Nat) (i : Nat) (hi : i < n) (hn : n ≤ 4) (A3 : Option Addr) (c3 L : Nat) {l : List Int} (hL : l.length = L) (hc3 : L ≤ c3) (hok : pOk id i n l) (w0 w : World) (hJ : JS w0 w gi gl i (some ad) n c)
  (ha : ∀ w1, Below w0.heap.size w0 w1 → w1.cell? ad = some (.int .u64 id)) (h3 : (Kd.int .u8).C w0 A3 l.length l) :
  Calls Tryz.prog 60 #[.agg #[.int .u64 id, .int .i64 (i : Int), .int .i64 n, .slice A3 L c3], .pointer (some ⟨gi, 0, none⟩), .pointer (some ⟨gl, 0, none⟩)] w fun e w' => e = .returned (.bool false) ∧ JS w0 w' gi gl (i + 1 : Nat) (some ad) n c := by
 have HJ := Aside0.mk hJ
 have HOK := Aside0.mk hok
 have HL : Aside0 (l.length = L ∧ L ≤ c3 ∧ (Kd.int .u8).C w0 A3 l.length l) := ⟨hL, hc3, h3⟩
 have HA : Aside0 (∀ {w1 : World} {i1 : Int}, JS w0 w1 gi gl i1 (some ad) n c → w1.cell? ad = some (.int .u64 id)) := ⟨fun h => ha _ h.bel⟩
 have hn0 : (0 : Int) < (n : Int) := by omega
 have hn1 := eq_true hn0
 have hn2 : (0 < n) = True := eq_true (by omega)
 obtain ⟨i1, hi1⟩ : ∃ x : Int, ((i + 1 : Nat) : Int) = x := ⟨_, rfl⟩
 have e1 : wrap64 ((i : Int) + 1) = i1 := by unfold wrap64; omega
 have e2 : wrap64 (i1 - 1) = (i : Int) := by unfold wrap64; omega
 have hii : ((i : Int) != (i : Int)) = false := bne_self_eq_false _
 have hnn : ((n : Int) != (n : Int)) = false := bne_self_eq_false _
 have hdd : (id != id) = false := bne_self_eq_false _
 rw [hi1]
 have HI : Aside0 (i < n ∧ n ≤ 4) := ⟨hi, hn⟩
 clear hJ hok hL hc3 h3 ha hi hn hn0 hi1
 go_enter Tryz.func60, Tryz.ntmps60
 go_wp2_with (first
  | ((with_reducible refine gate_dst (N := 3) rfl ?_); refine box_v rfl rfl rfl ?_; intro gb hg w2 hb hw; have HJ2 : Aside0 (JS w0 w2 gi gl i (some ad) n c ∧ gi ≠ gb) := ⟨HJ.out.below hw, by have := blk_lt HJ.out.bi; omega⟩; have HB2 : Aside0 (w2.heap[gb]? = some (.cells #[.int .u64 id, .int .i64 (i : Int), .int .i64 n, .slice A3 L c3] 60 (0, 0))) := ⟨hb⟩; clear hb hw hg; have hq := HJ2.out.1.i0; have hf := blk_frozen HJ2.out.1.bi 0))
 have HX1 : Aside0 (JS w0 ((w2.setCell ⟨gi, 0, none⟩ (.int .i64 i1)).drew) gi gl i1 (some ad) n c ∧ ((w2.setCell ⟨gi, 0, none⟩ (.int .i64 i1)).drew).heap[gb]? = some (.cells #[.int .u64 id, .int .i64 (i : Int), .int .i64 n, .slice A3 L c3] 60 (0, 0)) ∧ True) := ⟨(HJ2.out.1.set i1).below (below_drew (Below.refl _ _)), (Below.heap_setCell w2 _ _ gb (fun e => HJ2.out.2 e.symm)).trans HB2.out, trivial⟩
 refine start_ (n := 27) (S := fun w' => w'.heap[gb]? = some (.cells #[.int .u64 id, .int .i64 (i : Int), .int .i64 n, .slice A3 L c3] 60 (0, 0)) ∧ w'.cell? ⟨gb, 0, none⟩ = some (.int .u64 id) ∧ w'.cell? ⟨gb, 1, none⟩ = some (.int .i64 (i : Int)) ∧ w'.cell? ⟨gb, 2, none⟩ = some (.int .i64 n) ∧ w'.cell? ⟨gl, 0, none⟩ = some (.slice (some ad) n c) ∧ w'.cell? ad = some (.int .u64 id) ∧ w'.cell? ⟨gi, 0, none⟩ = some (.int .i64 i1)) (ds := []) #[false, false, false, false, false, false, false, false, false, false, false, false, false, false, false, false, false, false, false, false, false, false, false, false, false, false, false] (by kernel_rfl) rfl rfl ⟨HX1.out.2.1, cell_0 HX1.out.2.1, cell_1 HX1.out.2.1, cell_2 HX1.out.2.1, HX1.out.1.l0, HA.out HX1.out.1, HX1.out.1.i0⟩ (fun hHeld => ?_)
 refine with_tabW F_lit.tab2 F_lit.bits2 (fun HT_ HW_ => ?_)
 generalize (w2.setCell ⟨gi, 0, none⟩ (.int .i64 i1)).drew = x1 at HX1 hHeld ⊢
 refine take_ (i := 0) (N := some 7) (v := .agg (#[.int .u64 id, .int .i64 (i : Int), .int .i64 n, .slice A3 L c3])) (a' := ?_) #[true, false, false, false, false, false, false, false, false, false, false, false, false, false, false, false, false, false, false, false, false, false, false, false, false, false, false] rfl rfl (take_ofW HT_.out HW_.out (by kernel_rfl)) (fun _ _ _ h => h) (yields_row (by rfl) 60 (.tmp 3) rfl gb rfl 60 (#[.int .u64 id, .int .i64 (i : Int), .int .i64 n, .slice A3 L c3]) _ (fun _ s => s.1) Tryz.underlying60 rfl size60) hHeld ?_ ?_
 rotate_left
 ·simp only [Act.put, List.setIfInBounds_toArray, List.set_cons_zero, List.set_cons_succ, i64_w, i32_w]
  rfl
 refine one_ (i := 1) (N := some 8) #[true, true, false, false, false, false, false, false, false, false, false, false, false, false, false, false, false, false, false, false, false, false, false, false, false, false, false] rfl rfl (one_of HT_.out (by kernel_rfl)) (by decide) (fun K hK => ?_)
 refine goes_ Tryz.func32 (by kernel_rfl) rfl #[.agg #[.int .u64 id, .int .i64 (i : Int), .int .i64 n, .slice A3 L c3]] (by rfl) rfl rfl (by simp only [List.map_toArray, List.map_cons, List.map_nil]; rfl) ?_
 with_reducible refine (right_calls id (i : Int) n A3 c3 L HL.out.1 HL.out.2.1 HOK.out _ (Kd.C_below HL.out.2.2 HX1.out.1.bel)).mono ?_
 rintro e x2 ⟨rfl, hw⟩
 refine ⟨_, rfl, ?_⟩
 have HX2 : Aside0 (JS w0 x2 gi gl i1 (some ad) n c ∧ x2.heap[gb]? = some (.cells #[.int .u64 id, .int .i64 (i : Int), .int .i64 n, .slice A3 L c3] 60 (0, 0))) := ⟨HX1.out.1.below hw, (hw.block gb (blk_lt HX1.out.2.1)).trans HX1.out.2.1⟩
 clear hw
 refine hK.out _ _ ⟨HX2.out.2, cell_0 HX2.out.2, cell_1 HX2.out.2, cell_2 HX2.out.2, HX2.out.1.l0, HA.out HX2.out.1, HX2.out.1.i0⟩ (fun hHeld => ?_)
 clear hK K
 refine norm_ (a' := ?_) ?_ ?_
 rotate_left
 ·show Act.put _ (some 8) _ = _
  simp only [Act.put, List.setIfInBounds_toArray, List.set_cons_zero, List.set_cons_succ, i64_w, i32_w]
  rfl
 refine pure_ (i := 2) (N := some 9) (v := ?_) (a' := ?_) #[true, true, true, false, false, false, false, false, false, false, false, false, false, false, false, false, false, false, false, false, false, false, false, false, false, false, false] rfl rfl (any_of HT_.out (by kernel_rfl)) (fun _ _ _ h => h) (Or.inl ⟨by rfl, ?_⟩) ?_ ?_
 rotate_left
 ·intro w'
  go_simp
  with_reducible rfl
 rotate_left
 ·simp only [Act.put, List.setIfInBounds_toArray, List.set_cons_zero, List.set_cons_succ, i64_w, i32_w]
  rfl
 refine pure_ (i := 3) (N := some 10) (v := ?_) (a' := ?_) #[true, true, true, true, false, false, false, false, false, false, false, false, false, false, false, false, false, false, false, false, false, false, false, false, false, false, false] rfl rfl (any_of HT_.out (by kernel_rfl)) (fun _ _ _ h => h) (Or.inl ⟨by rfl, ?_⟩) ?_ ?_
 rotate_left
 ·intro w'
  go_simp
  with_reducible rfl
 rotate_left
 ·simp only [Act.put, List.setIfInBounds_toArray, List.set_cons_zero, List.set_cons_succ, i64_w, i32_w]
  rfl
 refine pure_ (i := 4) (N := some 11) (v := ?_) (a' := ?_) #[true, true, true, true, true, false, false, false, false, false, false, false, false, false, false, false, false, false, false, false, false, false, false, false, false, false, false] rfl rfl (any_of HT_.out (by kernel_rfl)) (fun _ _ _ h => h) (Or.inl ⟨by rfl, ?_⟩) ?_ ?_
 rotate_left
 ·intro w'
  go_simp
  with_reducible rfl
 rotate_left
 ·simp only [Act.put, List.setIfInBounds_toArray, List.set_cons_zero, List.set_cons_succ, i64_w, i32_w]
  rfl
 refine take_ (i := 5) (N := some 12) (v := ?_) (a' := ?_) #[true, true, true, true, true, true, false, false, false, false, false, false, false, false, false, false, false, false, false, false, false, false, false, false, false, false, false] rfl rfl (take_ofW HT_.out HW_.out (by kernel_rfl)) (fun _ _ _ h => h) (Or.inl ⟨by rfl, ?_⟩) hHeld ?_ ?_
 rotate_left
 ·rintro w' ⟨s0, s1, s2, s3, s4, s5, s6⟩
  go_simp
  with_reducible rfl
 rotate_left
 ·simp only [Act.put, List.setIfInBounds_toArray, List.set_cons_zero, List.set_cons_succ, i64_w, i32_w]
  rfl
 refine take_ (i := 6) (N := some 13) (v := ?_) (a' := ?_) #[true, true, true, true, true, true, true, false, false, false, false, false, false, false, false, false, false, false, false, false, false, false, false, false, false, false, false] rfl rfl (take_ofW HT_.out HW_.out (by kernel_rfl)) (fun _ _ _ h => h) (Or.inl ⟨by rfl, ?_⟩) hHeld ?_ ?_
 rotate_left
 ·rintro w' ⟨s0, s1, s2, s3, s4, s5, s6⟩
  go_simp
  with_reducible rfl
 rotate_left
 ·simp only [Act.put, List.setIfInBounds_toArray, List.set_cons_zero, List.set_cons_succ, i64_w, i32_w]
  rfl
 refine pure_ (i := 7) (N := some 14) (v := ?_) (a' := ?_) #[true, true, true, true, true, true, true, true, false, false, false, false, false, false, false, false, false, false, false, false, false, false, false, false, false, false, false] rfl rfl (any_of HT_.out (by kernel_rfl)) (fun _ _ _ h => h) (Or.inl ⟨by rfl, ?_⟩) ?_ ?_
 rotate_left
 ·intro w'
  go_simp
  with_reducible rfl
 rotate_left
 ·simp only [Act.put, List.setIfInBounds_toArray, List.set_cons_zero, List.set_cons_succ, i64_w, i32_w]
  rfl
 refine pure_ (i := 8) (N := some 15) (v := ?_) (a' := ?_) #[true, true, true, true, true, true, true, true, true, false, false, false, false, false, false, false, false, false, false, false, false, false, false, false, false, false, false] rfl rfl (any_of HT_.out (by kernel_rfl)) (fun _ _ _ h => h) (Or.inl ⟨by rfl, ?_⟩) ?_ ?_
 rotate_left
 ·intro w'
  go_simp
  with_reducible rfl
 rotate_left
 ·simp only [Act.put, List.setIfInBounds_toArray, List.set_cons_zero, List.set_cons_succ, i64_w, i32_w]
  rfl
 refine take_ (i := 9) (N := some 16) (v := ?_) (a' := ?_) #[true, true, true, true, true, true, true, true, true, true, false, false, false, false, false, false, false, false, false, false, false, false, false, false, false, false, false] rfl rfl (take_ofW HT_.out HW_.out (by kernel_rfl)) (fun _ _ _ h => h) (Or.inl ⟨by rfl, ?_⟩) hHeld ?_ ?_
 rotate_left
 ·rintro w' ⟨s0, s1, s2, s3, s4, s5, s6⟩
  go_simp
  with_reducible rfl
 rotate_left
 ·simp only [Act.put, List.setIfInBounds_toArray, List.set_cons_zero, List.set_cons_succ, i64_w, i32_w]
  rfl
 refine pure_ (i := 10) (N := some 17) (v := ?_) (a' := ?_) #[true, true, true, true, true, true, true, true, true, true, true, false, false, false, false, false, false, false, false, false, false, false, false, false, false, false, false] rfl rfl (any_of HT_.out (by kernel_rfl)) (fun _ _ _ h => h) (Or.inl ⟨by rfl, ?_⟩) ?_ ?_
 rotate_left
 ·intro w'
  go_simp
  with_reducible rfl
 rotate_left
 ·simp only [Act.put, List.setIfInBounds_toArray, List.set_cons_zero, List.set_cons_succ, i64_w, i32_w]
  rfl
 refine pure_ (i := 11) (N := some 18) (v := ?_) (a' := ?_) #[true, true, true, true, true, true, true, true, true, true, true, true, false, false, false, false, false, false, false, false, false, false, false, false, false, false, false] rfl rfl (any_of HT_.out (by kernel_rfl)) (fun _ _ _ h => h) (Or.inl ⟨by rfl, ?_⟩) ?_ ?_
 rotate_left
 ·intro w'
  go_simp
  with_reducible rfl
 rotate_left
 ·simp only [Act.put, List.setIfInBounds_toArray, List.set_cons_zero, List.set_cons_succ, i64_w, i32_w]
  rfl
 refine pure_ (i := 12) (N := some 19) (v := ?_) (a' := ?_) #[true, true, true, true, true, true, true, true, true, true, true, true, true, false, false, false, false, false, false, false, false, false, false, false, false, false, false] rfl rfl (any_of HT_.out (by kernel_rfl)) (fun _ _ _ h => h) (Or.inl ⟨by rfl, ?_⟩) ?_ ?_
 rotate_left
 ·intro w'
  go_simp
  with_reducible rfl
 rotate_left
 ·simp only [Act.put, List.setIfInBounds_toArray, List.set_cons_zero, List.set_cons_succ, i64_w, i32_w]
  rfl
 refine pure_ (i := 13) (N := some 20) (v := ?_) (a' := ?_) #[true, true, true, true, true, true, true, true, true, true, true, true, true, true, false, false, false, false, false, false, false, false, false, false, false, false, false] rfl rfl (any_of HT_.out (by kernel_rfl)) (fun _ _ _ h => h) (Or.inl ⟨by rfl, ?_⟩) ?_ ?_
 rotate_left
 ·intro w'
  go_simp
  with_reducible rfl
 rotate_left
 ·simp only [Act.put, List.setIfInBounds_toArray, List.set_cons_zero, List.set_cons_succ, i64_w, i32_w]
  rfl
 refine take_ (i := 14) (N := some 21) (v := ?_) (a' := ?_) #[true, true, true, true, true, true, true, true, true, true, true, true, true, true, true, false, false, false, false, false, false, false, false, false, false, false, false] rfl rfl (take_ofW HT_.out HW_.out (by kernel_rfl)) (fun _ _ _ h => h) (Or.inl ⟨by rfl, ?_⟩) hHeld ?_ ?_
 rotate_left
 ·rintro w' ⟨s0, s1, s2, s3, s4, s5, s6⟩
  go_simp
  with_reducible rfl
 rotate_left
 ·simp only [Act.put, List.setIfInBounds_toArray, List.set_cons_zero, List.set_cons_succ, i64_w, i32_w]
  rfl
 refine take_ (i := 15) (N := some 22) (v := ?_) (a' := ?_) #[true, true, true, true, true, true, true, true, true, true, true, true, true, true, true, true, false, false, false, false, false, false, false, false, false, false, false] rfl rfl (take_ofW HT_.out HW_.out (by kernel_rfl)) (fun _ _ _ h => h) (Or.inl ⟨by rfl, ?_⟩) hHeld ?_ ?_
 rotate_left
 ·rintro w' ⟨s0, s1, s2, s3, s4, s5, s6⟩
  go_simp
  with_reducible rfl
 rotate_left
 ·simp only [Act.put, List.setIfInBounds_toArray, List.set_cons_zero, List.set_cons_succ, i64_w, i32_w]
  rfl
 refine pure_ (i := 16) (N := some 23) (v := ?_) (a' := ?_) #[true, true, true, true, true, true, true, true, true, true, true, true, true, true, true, true, true, false, false, false, false, false, false, false, false, false, false] rfl rfl (any_of HT_.out (by kernel_rfl)) (fun _ _ _ h => h) (Or.inl ⟨by rfl, ?_⟩) ?_ ?_
 rotate_left
 ·intro w'
  go_simp
  with_reducible rfl
 rotate_left
 ·simp only [Act.put, List.setIfInBounds_toArray, List.set_cons_zero, List.set_cons_succ, i64_w, i32_w]
  rfl
 refine pure_ (i := 17) (N := some 24) (v := ?_) (a' := ?_) #[true, true, true, true, true, true, true, true, true, true, true, true, true, true, true, true, true, true, false, false, false, false, false, false, false, false, false] rfl rfl (any_of HT_.out (by kernel_rfl)) (fun _ _ _ h => h) (Or.inl ⟨by rfl, ?_⟩) ?_ ?_
 rotate_left
 ·intro w'
  go_simp
  with_reducible rfl
 rotate_left
 ·simp only [Act.put, List.setIfInBounds_toArray, List.set_cons_zero, List.set_cons_succ, i64_w, i32_w]
  rfl
 refine pure_ (i := 18) (N := some 25) (v := ?_) (a' := ?_) #[true, true, true, true, true, true, true, true, true, true, true, true, true, true, true, true, true, true, true, false, false, false, false, false, false, false, false] rfl rfl (any_of HT_.out (by kernel_rfl)) (fun _ _ _ h => h) (Or.inl ⟨by rfl, ?_⟩) ?_ ?_
 rotate_left
 ·intro w'
  go_simp
  with_reducible rfl
 rotate_left
 ·simp only [Act.put, List.setIfInBounds_toArray, List.set_cons_zero, List.set_cons_succ, i64_w, i32_w]
  rfl
 refine pure_ (i := 19) (N := some 26) (v := ?_) (a' := ?_) #[true, true, true, true, true, true, true, true, true, true, true, true, true, true, true, true, true, true, true, true, false, false, false, false, false, false, false] rfl rfl (any_of HT_.out (by kernel_rfl)) (fun _ _ _ h => h) (Or.inl ⟨by rfl, ?_⟩) ?_ ?_
 rotate_left
 ·intro w'
  go_simp
  with_reducible rfl
 rotate_left
 ·simp only [Act.put, List.setIfInBounds_toArray, List.set_cons_zero, List.set_cons_succ, i64_w, i32_w]
  rfl
 refine pure_ (i := 20) (N := some 27) (v := ?_) (a' := ?_) #[true, true, true, true, true, true, true, true, true, true, true, true, true, true, true, true, true, true, true, true, true, false, false, false, false, false, false] rfl rfl (any_of HT_.out (by kernel_rfl)) (fun _ _ _ h => h) (Or.inl ⟨by rfl, ?_⟩) ?_ ?_
 rotate_left
 ·intro w'
  go_simp
  with_reducible rfl
 rotate_left
 ·simp only [Act.put, List.setIfInBounds_toArray, List.set_cons_zero, List.set_cons_succ, i64_w, i32_w]
  rfl
 refine take_ (i := 21) (N := some 28) (v := ?_) (a' := ?_) #[true, true, true, true, true, true, true, true, true, true, true, true, true, true, true, true, true, true, true, true, true, true, false, false, false, false, false] rfl rfl (take_ofW HT_.out HW_.out (by kernel_rfl)) (fun _ _ _ h => h) (Or.inl ⟨by rfl, ?_⟩) hHeld ?_ ?_
 rotate_left
 ·rintro w' ⟨s0, s1, s2, s3, s4, s5, s6⟩
  go_simp
  with_reducible rfl
 rotate_left
 ·simp only [Act.put, List.setIfInBounds_toArray, List.set_cons_zero, List.set_cons_succ, i64_w, i32_w]
  rfl
 refine take_ (i := 22) (N := some 29) (v := ?_) (a' := ?_) #[true, true, true, true, true, true, true, true, true, true, true, true, true, true, true, true, true, true, true, true, true, true, true, false, false, false, false] rfl rfl (take_ofW HT_.out HW_.out (by kernel_rfl)) (fun _ _ _ h => h) (Or.inl ⟨by rfl, ?_⟩) hHeld ?_ ?_
 rotate_left
 ·rintro w' ⟨s0, s1, s2, s3, s4, s5, s6⟩
  go_simp
  with_reducible rfl
 rotate_left
 ·simp only [Act.put, List.setIfInBounds_toArray, List.set_cons_zero, List.set_cons_succ, i64_w, i32_w]
  rfl
 refine pure_ (i := 23) (N := some 30) (v := ?_) (a' := ?_) #[true, true, true, true, true, true, true, true, true, true, true, true, true, true, true, true, true, true, true, true, true, true, true, true, false, false, false] rfl rfl (any_of HT_.out (by kernel_rfl)) (fun _ _ _ h => h) (Or.inl ⟨by rfl, ?_⟩) ?_ ?_
 rotate_left
 ·intro w'
  go_simp
  with_reducible rfl
 rotate_left
 ·simp only [Act.put, List.setIfInBounds_toArray, List.set_cons_zero, List.set_cons_succ, i64_w, i32_w]
  rfl
 refine pure_ (i := 24) (N := some 31) (v := ?_) (a' := ?_) #[true, true, true, true, true, true, true, true, true, true, true, true, true, true, true, true, true, true, true, true, true, true, true, true, true, false, false] rfl rfl (any_of HT_.out (by kernel_rfl)) (fun _ _ _ h => h) (Or.inl ⟨by rfl, ?_⟩) ?_ ?_
 rotate_left
 ·intro w'
  go_simp
  with_reducible rfl
 rotate_left
 ·simp only [Act.put, List.setIfInBounds_toArray, List.set_cons_zero, List.set_cons_succ, i64_w, i32_w]
  rfl
 refine pure_ (i := 25) (N := some 32) (v := ?_) (a' := ?_) #[true, true, true, true, true, true, true, true, true, true, true, true, true, true, true, true, true, true, true, true, true, true, true, true, true, true, false] rfl rfl (any_of HT_.out (by kernel_rfl)) (fun _ _ _ h => h) (Or.inl ⟨by rfl, ?_⟩) ?_ ?_
 rotate_left
 ·intro w'
  go_simp
  with_reducible rfl
 rotate_left
 ·simp only [Act.put, List.setIfInBounds_toArray, List.set_cons_zero, List.set_cons_succ, i64_w, i32_w]
  rfl
 refine pure_ (i := 26) (N := some 4) (v := ?_) (a' := ?_) #[true, true, true, true, true, true, true, true, true, true, true, true, true, true, true, true, true, true, true, true, true, true, true, true, true, true, true] rfl rfl (any_of HT_.out (by kernel_rfl)) (fun _ _ _ h => h) (Or.inl ⟨by rfl, ?_⟩) ?_ ?_
 rotate_left
 ·intro w'
  go_simp
  with_reducible rfl
 rotate_left
 ·simp only [Act.put, List.setIfInBounds_toArray, List.set_cons_zero, List.set_cons_succ, i64_w, i32_w]
  rfl
 refine done_ (done_of HT_.out (by kernel_rfl)) ?_

 go_wp2
 go_ret
 exact ⟨rfl, HX2.out.1⟩
end Go.Proofs.YteadamkkbgnpeaaGreat.F
end OfF3
section OfF4
set_option linter.unusedVariables false
set_option linter.unusedSimpArgs false
namespace Go.Proofs.YteadamkkbgnpeaaGreat.F
open Go.RowKit YteadamkkbgnpeaaGreatW.PrintLast M A B S QTC YteadamkkbgnpeaaGreatW.PrintWords YteadamkkbgnpeaaGreatW.PrintMore
/-- A frame's parts lie in block g from o on: the numbers and the bytes. -/
def PRow (w : World) (g o : Nat) (id : Int) (n : Nat) (ds : List (List Int)) : Prop :=
 ∀ j, j < n → ∃ A3 c3, w.rangeAt g (o + j * 4) [.int .u64 id, .int .i64 (j : Int), .int .i64 (n : Int), .slice A3 (ds.getD j []).length c3] ∧ (ds.getD j []).length ≤ c3 ∧ (Kd.int .u8).C w A3 (ds.getD j []).length (ds.getD j [])
theorem range_below {w w1 : World} {g o B : Nat} {cs : List Value} (h : w.rangeAt g o cs) (k : Below w.heap.size w w1) : w1.rangeAt g o cs := fun j v hv => by
 have h1 := h j v hv
 have h2 := World.block_lt_of_cell? w _ h1
 have h3 := k.block g h2
 simpa [World.cell?, h3] using h1
theorem PRow.below {w w1 : World} {g o : Nat} {id : Int} {n : Nat} {ds : List (List Int)} (h : PRow w g o id n ds) (k : Below w.heap.size w w1) : PRow w1 g o id n ds := fun j hj => by
 obtain ⟨A3, c3, h1, h2, h3⟩ := h j hj
 exact ⟨A3, c3, range_below (B := 0) h1 k, h2, Kd.C_below h3 k⟩
/-- A frame that was cut well. -/
structure Whole (id : Int) (n : Nat) (ds : List (List Int)) : Prop where
 len : ds.length = n
 n1 : 1 ≤ n ∧ n ≤ 4
 ok : ∀ j : Nat, j < n → pOk id (j : Int) (n : Int) (ds.getD j [])
set_option maxHeartbeats 8000000 in
set_option maxRecDepth 100000 in
theorem index_calls (id : Int) (n : Nat) (ds : List (List Int)) (hW : Whole id n ds) (gi gl g o c : Nat) (hc : n ≤ c) (w0 w : World) (hP : PRow w0 g o id n ds) (hJ : JS w0 w gi gl 0 (some ⟨g, o, none⟩) n c) :
  Calls Tryz.prog 68 #[.slice (some ⟨g, o, none⟩) n c, .func (.func 60) #[] #[.pointer (some ⟨gi, 0, none⟩), .pointer (some ⟨gl, 0, none⟩)]] w fun e w' => e = .returned (.int .i64 (-1)) ∧ JS w0 w' gi gl (n : Int) (some ⟨g, o, none⟩) n c := by
 have HW := Aside0.mk hW
 have HP := Aside0.mk hP
 have HJ := Aside0.mk hJ
 clear hW hP hJ hc
 go_enter Tryz.func68, Tryz.ntmps68
 go_wp2
 go_loopg [8] n (fun kq v8 w' => ∃ i : Nat, v8 = .int .i64 (i : Int) ∧ Aside0 (kq = n - i ∧ i ≤ n) ∧ Aside0 (JS w0 w' gi gl (i : Int) (some ⟨g, o, none⟩) n c))
 case atStart => exact ⟨0, by first | rfl | simp, ⟨by omega⟩, HJ⟩
 case round =>
  obtain ⟨i, rfl, HK, HJi⟩ := hrel
  by_cases c1 : i < n
  ·have c1b : decide ((i : Int) < (n : Int)) = true := decide_eq_true (by omega)
   have c1c : decide (i < n) = true := decide_eq_true c1
   have HI := Aside0.mk c1
   have h0t := eq_true (show (0 : Int) ≤ (i : Int) by omega)
   have h1t := eq_true (show (i : Int) < (n : Int) by omega)
   obtain ⟨A3, c3, hr, hcc, hC⟩ := HP.out i c1
   obtain ⟨l, hl⟩ : ∃ l, ds.getD i [] = l := ⟨_, rfl⟩
   rw [hl] at hr hcc hC
   obtain ⟨L, hL⟩ : ∃ L, l.length = L := ⟨_, rfl⟩
   rw [hL] at hr hcc
   have HR := Aside0.mk hr
   have HC : Aside0 (L ≤ c3 ∧ (Kd.int .u8).C w0 A3 l.length l ∧ l.length = L ∧ pOk id (i : Int) (n : Int) l) := ⟨hcc, hC, hL, by rw [← hl]; exact HW.out.ok i c1⟩
   clear c1 hr hcc hC hl hL
   go_wp2_with (first
    | ((with_reducible refine gate_dst (N := 15) rfl ?_); refine wpList_load_mid rfl 60 (.tmp 14) rfl g (o + i * 4) rfl [.int .u64 id, .int .i64 (i : Int), .int .i64 (n : Int), .slice A3 L c3] _ (range_below (B := 0) HR.out HJi.out.bel) Tryz.underlying60 rfl size60 ?_)
    | (go_at_call 60; refine (lit_calls id n gi gl ⟨g, o, none⟩ c i HI.out HW.out.n1.2 A3 c3 L HC.out.2.2.1 HC.out.1 HC.out.2.2.2 w0 _ HJi.out ?ha HC.out.2.1).mono ?_; (case ha => (intro w1 hb; obtain ⟨A0, c0, h0, _⟩ := (HP.out.below hb) 0 (by have := HI.out; omega); exact h0 0 _ rfl)); rintro e w2 ⟨rfl, hj⟩; have HJ2 := Aside0.mk hj; clear hj))
   go_roundg (gk - 1)
   case measure => have := HK.out; have := HI.out; omega
   case rel =>
    refine ⟨i + 1, ?_, ⟨by have := HK.out; have := HI.out; omega⟩, HJ2⟩
    have := HI.out
    have := HW.out.n1
    first
    | rfl
    | (congr 1; unfold wrap64; omega)
    | (congr 1; done)
  ·have hi : i = n := by have := HK.out; omega
   have c1b : decide ((i : Int) < (n : Int)) = false := decide_eq_false (by omega)
   have c1c : decide (i < n) = false := decide_eq_false c1
   subst hi
   clear c1
   go_wp2
   go_ret
   exact ⟨rfl, HJi.out⟩
set_option maxHeartbeats 8000000 in
set_option maxRecDepth 100000 in
theorem contains_calls (id : Int) (n : Nat) (ds : List (List Int)) (hW : Whole id n ds) (gi gl g o c : Nat) (hc : n ≤ c) (w0 w : World) (hP : PRow w0 g o id n ds) (hJ : JS w0 w gi gl 0 (some ⟨g, o, none⟩) n c) :
  Calls Tryz.prog 59 #[.slice (some ⟨g, o, none⟩) n c, .func (.func 60) #[] #[.pointer (some ⟨gi, 0, none⟩), .pointer (some ⟨gl, 0, none⟩)]] w fun e w' => e = .returned (.bool false) ∧ JS w0 w' gi gl (n : Int) (some ⟨g, o, none⟩) n c := by
 go_enter Tryz.func59, Tryz.ntmps59
 go_wp2_with (first
  | (go_at_call 68; refine (index_calls id n ds hW gi gl g o c hc w0 _ hP hJ).mono ?_; rintro e w2 ⟨rfl, hj⟩; have HJ2 := Aside0.mk hj; clear hj))
 go_ret
 exact ⟨rfl, HJ2.out⟩
end Go.Proofs.YteadamkkbgnpeaaGreat.F
end OfF4
section OfF5
set_option linter.unusedVariables false
set_option linter.unusedSimpArgs false
namespace Go.Proofs.YteadamkkbgnpeaaGreat.F
open Go.RowKit YteadamkkbgnpeaaGreatW.PrintLast M A B S QTC YteadamkkbgnpeaaGreatW.PrintWords YteadamkkbgnpeaaGreatW.PrintMore
theorem flat_480 : ∀ ls : List (List Int), (∀ x ∈ ls, x.length ≤ 480) → ls.flatten.length ≤ 480 * ls.length
 | [], _ => by simp
 | x :: t, h => by
  have h1 := flat_480 t (fun y hy => h y (List.mem_cons_of_mem _ hy))
  have h2 := h x (List.mem_cons_self ..)
  rw [List.flatten_cons, List.length_append, List.length_cons]
  omega
theorem Whole.flat {id : Int} {n : Nat} {ds : List (List Int)} (h : Whole id n ds) : ds.flatten.length ≤ 1920 := by
 have h1 := flat_480 ds (fun x hx => by
  obtain ⟨j, hj, rfl⟩ := List.getElem_of_mem hx
  have h2 := (h.ok j (by have := h.len; omega)).2.2.1
  rw [List.getD_eq_getElem?_getD, List.getElem?_eq_getElem hj] at h2
  exact h2)
 have := h.len; have := h.n1; omega
theorem zero3 : (Tryz.prog.info? 3).bind (·.zero) = some (.int .i64 0) := by kernel_rfl
theorem zero60 : (Tryz.prog.info? 60).bind (·.zero) = some (.agg #[.int .u64 0, .int .i64 0, .int .i64 0, .slice none 0 0]) := by kernel_rfl
theorem infoB5 : (Tryz.prog.info? 5).map (fun i => (i.zero, i.size, i.bytes)) = some (some (.int .u8 0), 1, 1) := by kernel_rfl
set_option maxHeartbeats 8000000 in
set_option maxRecDepth 100000 in
theorem join_calls (id : Int) (n : Nat) (ds : List (List Int)) (hW : Whole id n ds) (g o c : Nat) (hc : n ≤ c) (w : World) (hP : PRow w g o id n ds) :
  Calls Tryz.prog 43 #[.slice (some ⟨g, o, none⟩) n c] w fun e w' => ∃ v, e = .returned (.tuple #[v, .int .i64 0]) ∧ (Kd.int .u8).R 5 w' w.heap.size (fun _ => True) v ds.flatten ∧ Below w.heap.size w w' := by
 have HW := Aside0.mk hW
 have HP := Aside0.mk hP
 have HCC := Aside0.mk hc
 have n0 : (n == 0) = false := beq_eq_false_iff_ne.mpr (by have := hW.n1; omega)
 have n0b : ((n : Int) == 0) = false := beq_eq_false_iff_ne.mpr (by have := hW.n1; omega)
 clear hW hP hc
 go_enter Tryz.func43, Tryz.ntmps43
 go_wp2_with (first
  | ((with_reducible refine gate_dst (N := 1) rfl ?_); refine box_v rfl rfl rfl ?_; intro gl hg w1 hb hw; have HB1 : Aside0 (w1.heap[gl]? = some (.cells #[.slice (some ⟨g, o, none⟩) n c] 54 (0, 0)) ∧ Below w.heap.size w w1 ∧ w.heap.size ≤ gl) := ⟨hb, hw, by omega⟩; clear hb hw hg; have hq1 : w1.cell? ⟨gl, 0, none⟩ = some (.slice (some ⟨g, o, none⟩) n c) := (blk_cell HB1.out.1 0).trans rfl)
  | ((with_reducible refine gate_dst (N := 4) rfl ?_); refine alloc_v rfl rfl zero3 ?hr ?_; (case hr => rfl); intro gi hg w2 hb hw; have HJ2 : Aside0 (JS w w2 gi gl 0 (some ⟨g, o, none⟩) n c) := ⟨⟨below_step HB1.out.2.1 hw, hb, (hw.block gl (blk_lt HB1.out.1)).trans HB1.out.1, by have := HB1.out.2.1.size; have := blk_lt HB1.out.1; have := HB1.out.2.2; omega⟩⟩; clear hb hw hg; have hq2 := HJ2.out.l0; have hq3 := HJ2.out.i0; have hf3 := blk_frozen HJ2.out.bi 0; have HJ3 := Aside0.mk (HJ2.out.set 0); have hq4 := HJ3.out.l0)
  | (go_at_call 59; refine (contains_calls id n ds HW.out gi gl g o c HCC.out w _ HP.out HJ3.out).mono ?_; rintro e w4 ⟨rfl, hj⟩; have HJ4 := Aside0.mk hj; have hq5 := HJ4.out.l0; clear hj))
 go_loopg [6, 18] n (fun kq v6 v18 w' => ∃ i : Nat, v18 = .int .i64 (i : Int) ∧ Aside0 (kq = n - i ∧ i ≤ n) ∧ Aside0 (Below w.heap.size w w') ∧ Aside0 ((Kd.int .u8).R 5 w' w.heap.size (fun _ => True) v6 (ds.take i).flatten))
 case atStart => exact ⟨0, by first | rfl | simp, ⟨by omega⟩, ⟨HJ4.out.bel⟩, ⟨Kd.R_nil _ _ _ _ _⟩⟩
 case round =>
  obtain ⟨i, rfl, HK, HBi, HRi⟩ := hrel
  by_cases c1 : i < n
  ·have c1b : decide ((i : Int) < (n : Int)) = true := decide_eq_true (by omega)
   have c1c : decide (i < n) = true := decide_eq_true c1
   have HI := Aside0.mk c1
   have h0t := eq_true (show (0 : Int) ≤ (i : Int) by omega)
   have h1t := eq_true (show (i : Int) < (n : Int) by omega)
   obtain ⟨A3, c3, hr, hcc, hC⟩ := HP.out i c1
   obtain ⟨l, hl⟩ : ∃ l, ds.getD i [] = l := ⟨_, rfl⟩
   rw [hl] at hr hcc hC
   obtain ⟨L, hL⟩ : ∃ L, l.length = L := ⟨_, rfl⟩
   rw [hL] at hr hcc hC
   have HR := Aside0.mk hr
   have HC : Aside0 (L ≤ c3 ∧ (Kd.int .u8).C w A3 L l) := ⟨hcc, hC⟩
   have HF : Aside0 ((ds.take (i + 1)).flatten = (ds.take i).flatten ++ l ∧ (ds.take i).flatten.length ≤ 1920 ∧ L ≤ 480) := ⟨by rw [flat_step ds i (by have := HW.out.len; omega), hl], by have := flat_le ds i; have := HW.out.flat; omega, by have h := (HW.out.ok i c1).2.2.1; rw [hl, hL] at h; exact h⟩
   clear c1 hr hcc hC hl hL
   go_wp2_with (first
    | ((with_reducible refine gate_dst (N := 21) rfl ?_); refine wpList_load_mid rfl 60 (.tmp 20) rfl g (o + i * 4) rfl [.int .u64 id, .int .i64 (i : Int), .int .i64 (n : Int), .slice A3 L c3] _ (range_below (B := 0) HR.out HBi.out) Tryz.underlying60 rfl size60 ?_)
    | ((with_reducible refine gate_dst (N := 8) rfl ?_); refine alloc_v rfl rfl zero60 ?hr ?_; (case hr => rfl); intro gp hg w5 hb hw; have HB5 : Aside0 (w5.heap[gp]? = some (.cells #[.int .u64 0, .int .i64 0, .int .i64 0, .slice none 0 0] 60 (0, 0)) ∧ Below w.heap.size w w5 ∧ w.heap.size ≤ gp) := ⟨hb, below_step HBi.out hw, by have := HBi.out.size; omega⟩; have HR5 : Aside0 ((Kd.int .u8).R 5 w5 w.heap.size (fun k => k ≠ gp) u6 (ds.take i).flatten) := ⟨Kd.R_step (Kd.R_mono (Kd.R_bound HRi.out) (fun k hk => by have := hk.2.2.1; omega)) (fun k _ hk => hw.block k hk)⟩; clear hb hw hg)
    | (refine store_row (t := 60) (e := 60) (g := gp) (cells := #[.int .u64 id, .int .i64 (i : Int), .int .i64 (n : Int), .slice A3 L c3]) rfl rfl rfl rfl rfl HB5.out.1 size60 rfl (by simp [Value.oneCell']) ?_; intro w6 hb hf; have hq6 := cell_3 hb; have HB6 : Aside0 (Below w.heap.size w w6) := ⟨(Fr.of_below HB5.out.2.1 (fun _ => False)).trans hf (fun k e => .inr (by rw [e]; exact HB5.out.2.2)) |>.below (fun _ _ h => h)⟩; have HR6 : Aside0 ((Kd.int .u8).R 5 w6 w.heap.size (fun _ => True) u6 (ds.take i).flatten) := ⟨Kd.R_mono (Kd.R_step HR5.out (fun k hk hl => hf.block k hl hk)) (fun _ _ => trivial)⟩; clear hb hf)
    | ((with_reducible refine gate_builtin (b := .append) (xs := #[.tmp 22, .tmp 24]) rfl ?_); at_builtin; refine Kd.R_append_rows (Kd.int .u8) (w0 := w) w.heap.size rfl (.tmp 22) (.tmp 24) 22 5 (.int .u8 0) 1 rfl Tryz.underlying22 infoB5 rfl (by decide) (by decide) _ (ds.take i).flatten l A3 L c3 (fun _ => True) (fun _ => False) rfl rfl HR6.out (Kd.C_below HC.out.2 HB6.out) (fun _ _ h => h) (fun _ hk => hk.elim) (fun _ _ => trivial) HB6.out HB6.out.size (by have := HF.out; omega) ?_; intro v7 w7 ho hb hg hat; have HB7 := Aside0.mk hb; have HR7 : Aside0 ((Kd.int .u8).R 5 w7 w.heap.size (fun _ => True) v7 (ds.take (i + 1)).flatten) := ⟨by rw [HF.out.1]; exact ho⟩; clear ho hb hg hat))
   go_roundg (gk - 1)
   case measure => have := HK.out; have := HI.out; omega
   case rel =>
    refine ⟨i + 1, ?_, ⟨by have := HK.out; have := HI.out; omega⟩, HB7, HR7⟩
    have := HI.out
    have := HW.out.n1
    first
    | rfl
    | (congr 1; unfold wrap64; omega)
    | (congr 1; done)
  ·have hi : i = n := by have := HK.out; omega
   have c1b : decide ((i : Int) < (n : Int)) = false := decide_eq_false (by omega)
   have c1c : decide (i < n) = false := decide_eq_false c1
   subst hi
   have HRn : Aside0 ((Kd.int .u8).R 5 wr w.heap.size (fun _ => True) u6 ds.flatten) := ⟨by have h := HRi.out; rw [List.take_of_length_le (by have := HW.out.len; omega)] at h; exact h⟩
   clear c1
   go_wp2
   go_ret2
   exact ⟨_, rfl, HRn.out, HBi.out⟩
end Go.Proofs.YteadamkkbgnpeaaGreat.F
end OfF5
section OfJ1
set_option linter.unusedVariables false
set_option linter.unusedSimpArgs false
namespace Go.Proofs.YteadamkkbgnpeaaGreat.J
open Go.RowKit Go.ChangeMaps YteadamkkbgnpeaaGreatW.PrintLast F M A B S QTC YteadamkkbgnpeaaGreatW.PrintWords YteadamkkbgnpeaaGreatW.PrintMore
/-- An entry of the table's map: a frame's number, its block, and when it came. -/
structure En where
 id : Int
 b : Nat
 born : Nat
def En.e (x : En) : MapEntry := { key := .int .u64 x.id, val := .pointer (some ⟨x.b, 0, none⟩), born := x.born }
def MapAt (w : World) (m : Nat) (E : List En) (clock : Nat) : Prop := w.heap[m]? = some (.map (E.map En.e).toArray clock)
structure EnOk (E : List En) (clock : Nat) : Prop where
 ids : (E.map (·.id)).Nodup
 borns : (E.map (·.born)).Nodup
 old : ∀ x ∈ E, x.born < clock
theorem sameNow_int (a b : Int) : Instr.sameNow (.int .u64) (.int .u64 a) (.int .u64 b) = some (a == b) := by simp [Instr.sameNow]
/-- Where a number's entry lies. -/
def pos (id : Int) : List En → Nat → Option (Nat × Value)
 | [], _ => none
 | x :: t, i => if id = x.id then some (i, .pointer (some ⟨x.b, 0, none⟩)) else pos id t (i + 1)
theorem findNow_pos (id : Int) : ∀ (E : List En) (i : Nat), Instr.findNow (.int .u64) (.int .u64 id) (E.map En.e) i = some (pos id E i)
 | [], _ => rfl
 | x :: t, i => by
  rw [List.map_cons, Instr.findNow, show (En.e x).key = .int .u64 x.id from rfl, sameNow_int, pos]
  by_cases h : id = x.id
  ·rw [if_pos h, beq_iff_eq.mpr h]; rfl
  ·rw [if_neg h, beq_eq_false_iff_ne.mpr h]; exact findNow_pos id t (i + 1)
theorem findKey_pos (w : World) (id : Int) (E : List En) : (Instr.findKey 57 (.int .u64 id) (E.map En.e)).run Tryz.prog w = .ok (pos id E 0) w := by
 unfold Instr.findKey
 simp only [Sem.run_bind, run_underlying Tryz.underlying57, Result.andThen, findNow_pos]
 rfl
theorem checkKey_int (w : World) (b : Bool) (id : Int) : (Instr.checkKey b 10000 57 (.int .u64 id)).run Tryz.prog w = .ok () w := by
 unfold Instr.checkKey
 simp only [Sem.run_bind, run_underlying Tryz.underlying57, Result.andThen]
 rfl
theorem zero108 (w : World) : (zeroValue 108).run Tryz.prog w = .ok (.pointer none) w := by
 have h : (Tryz.prog.info? 108).bind (·.zero) = some (.pointer none) := by kernel_rfl
 cases hi : Tryz.prog.info? 108 with
 | none => simp [hi] at h
 | some i =>
  have hz : i.zero = some (.pointer none) := by simpa [hi] using h
  simp [zeroValue, typeInfo, hi, hz, Sem.run_bind]
def valOf : Option (Nat × Value) → Value
 | some p => p.2
 | none => .pointer none
theorem look_run {w : World} {m clock : Nat} {E : List En} (h : MapAt w m E clock) (id : Int) :
  (Instr.lookup 89 (.map (some m)) (.int .u64 id) false).run Tryz.prog w = .ok (valOf (pos id E 0)) w := by
 have h1 := fun b => checkKey_int w b id
 have h2 := findKey_pos w id E
 have h3 : w.heap[m]? = some (.map (E.map En.e).toArray clock) := h
 cases hp : pos id E 0 with
 | none =>
  rw [hp] at h2
  simp [Instr.lookup, run_underlying Tryz.underlying89, MapKept.run_getObj_map h3, h1, h2, zero108, Result.andThen, valOf]
 | some q =>
  rw [hp] at h2
  simp [Instr.lookup, run_underlying Tryz.underlying89, MapKept.run_getObj_map h3, h1, h2, Result.andThen, valOf]
/-- What is found. -/
theorem pos_none {id : Int} : ∀ {E : List En} {i : Nat}, (∀ x ∈ E, x.id ≠ id) → pos id E i = none
 | [], _, _ => rfl
 | x :: t, i, h => by
  rw [pos, if_neg (fun e => h x (List.mem_cons_self ..) e.symm)]
  exact pos_none (fun y hy => h y (List.mem_cons_of_mem _ hy))
theorem pos_spec {id : Int} : ∀ {E : List En} {i : Nat}, pos id E i = none ∧ (∀ x ∈ E, x.id ≠ id) ∨ ∃ j x, pos id E i = some (i + j, .pointer (some ⟨x.b, 0, none⟩)) ∧ E[j]? = some x ∧ x.id = id
 | [], _ => .inl ⟨rfl, fun _ h => by cases h⟩
 | y :: t, i => by
  by_cases h : id = y.id
  ·exact .inr ⟨0, y, by rw [pos, if_pos h]; rfl, rfl, h.symm⟩
  ·rcases pos_spec (id := id) (E := t) (i := i + 1) with ⟨h1, h2⟩ | ⟨j, x, h1, h2, h3⟩
   ·exact .inl ⟨by rw [pos, if_neg h, h1], fun x hx => (List.mem_cons.mp hx).elim (fun e => by rw [e]; exact fun e2 => h e2.symm) (h2 x)⟩
   ·exact .inr ⟨j + 1, x, by rw [pos, if_neg h, h1]; congr 2; omega, h2, h3⟩
theorem filter_none {id : Int} {E : List En} (h : ∀ x ∈ E, x.id ≠ id) : E.filter (fun x => x.id ≠ id) = E := List.filter_eq_self.mpr (fun x hx => decide_eq_true (h x hx))
theorem filter_erase {id : Int} {x : En} : ∀ {E : List En} {j : Nat}, (E.map (·.id)).Nodup → E[j]? = some x → x.id = id → E.filter (fun x => x.id ≠ id) = E.eraseIdx j
 | [], _, _, h, _ => by simp at h
 | y :: t, 0, hn, h, e => by
  rw [List.map_cons, List.nodup_cons] at hn
  simp only [List.getElem?_cons_zero, Option.some.injEq] at h
  subst h
  rw [List.filter_cons_of_neg (by simp [e]), List.eraseIdx_cons_zero]
  exact filter_none (fun z hz e2 => hn.1 (List.mem_map.mpr ⟨z, hz, by rw [e2, e]⟩))
 | y :: t, j + 1, hn, h, e => by
  rw [List.map_cons, List.nodup_cons] at hn
  rw [List.getElem?_cons_succ] at h
  have hne : y.id ≠ id := fun e2 => hn.1 (List.mem_map.mpr ⟨x, List.mem_of_getElem? h, by rw [e, e2]⟩)
  rw [List.filter_cons_of_pos (by simp [hne]), List.eraseIdx_cons_succ, filter_erase hn.2 h e]
/-- A new entry. -/
theorem update_run {w : World} {m clock : Nat} {E : List En} (h : MapAt w m E clock) (id : Int) (b : Nat) (hn : ∀ x ∈ E, x.id ≠ id) :
  (Instr.mapUpdate 89 (.map (some m)) (.int .u64 id) (.pointer (some ⟨b, 0, none⟩))).run Tryz.prog w = .ok () (setBlock w m (.map ((E ++ [(⟨id, b, clock⟩ : En)]).map En.e).toArray (clock + 1))) := by
 have h1 := fun b => checkKey_int w b id
 have h2 := findKey_pos w id E
 rw [pos_none hn] at h2
 have h3 : w.heap[m]? = some (.map (E.map En.e).toArray clock) := h
 simp [Instr.mapUpdate, run_underlying Tryz.underlying89, MapKept.run_getObj_map h3, h1, h2, Result.andThen, MapKept.run_setObj_map _ h3, setBlock, En.e]
/-- An entry goes. -/
theorem delete_run {w : World} {m clock : Nat} {E : List En} (h : MapAt w m E clock) (hn : (E.map (·.id)).Nodup) (id : Int) (ty : TypeId) :
  (Builtin.delete_ #[89, 57] ty #[.map (some m), .int .u64 id]).run Tryz.prog w = .ok (.tuple #[]) (setBlock w m (.map ((E.filter (fun x => x.id ≠ id)).map En.e).toArray clock)) := by
 have h1 := fun b => checkKey_int w b id
 have h2 := findKey_pos w id E
 have h3 : w.heap[m]? = some (.map (E.map En.e).toArray clock) := h
 rcases pos_spec (id := id) (E := E) (i := 0) with ⟨hp, h4⟩ | ⟨j, x, hp, h4, h5⟩
 ·rw [hp] at h2
  rw [filter_none h4]
  simp [Builtin.delete_, run_underlying Tryz.underlying89, MapKept.run_getObj_map h3, h1, h2, Result.andThen, MapKept.run_setObj_map _ h3, setBlock]
 ·rw [hp] at h2
  rw [filter_erase hn h4 h5]
  simp [Builtin.delete_, run_underlying Tryz.underlying89, MapKept.run_getObj_map h3, h1, h2, Result.andThen, MapKept.run_setObj_map _ h3, setBlock, map_eraseIdx]
end Go.Proofs.YteadamkkbgnpeaaGreat.J
end OfJ1
section OfJ2
set_option linter.unusedVariables false
set_option linter.unusedSimpArgs false
namespace Go.Proofs.YteadamkkbgnpeaaGreat.J
open Go.RowKit Go.ChangeMaps YteadamkkbgnpeaaGreatW.PrintLast F M A B S QTC YteadamkkbgnpeaaGreatW.PrintWords YteadamkkbgnpeaaGreatW.PrintMore
theorem setBlock_at {w : World} {b : Nat} {o o' : Obj} (h : w.heap[b]? = some o) : (setBlock w b o').heap[b]? = some o' := (MapKept.heap_set h).1
theorem setBlock_far {w : World} {b k : Nat} {o' : Obj} (h : k ≠ b) : (setBlock w b o').heap[k]? = w.heap[k]? := by
 unfold setBlock
 simp [Array.getElem?_setIfInBounds, Ne.symm h]
theorem fr_setBlock {w : World} {b : Nat} {o' : Obj} : Fr w (setBlock w b o') (fun k => k = b) := ⟨rfl, rfl, rfl, by simp [setBlock], fun k _ hn => setBlock_far hn⟩
/-- A table: its floor, its map, its entries. -/
structure TabAt (w : World) (gt gm : Nat) (fl : Int) (E : List En) (clock : Nat) : Prop where
 t : w.heap[gt]? = some (.cells #[.int .u64 fl, .map (some gm)] 91 (0, 0))
 m : MapAt w gm E clock
 ok : EnOk E clock
theorem TabAt.ne {w : World} {gt gm clock : Nat} {fl : Int} {E : List En} (h : TabAt w gt gm fl E clock) : gt ≠ gm := by
 rintro rfl
 have h1 := h.t
 rw [show w.heap[gt]? = _ from h.m] at h1
 cases h1
theorem TabAt.fr {w w1 : World} {gt gm clock : Nat} {fl : Int} {E : List En} {S : Nat → Prop} (h : TabAt w gt gm fl E clock) (f : Fr w w1 S) (h1 : ¬ S gt) (h2 : ¬ S gm) : TabAt w1 gt gm fl E clock := ⟨f.blk h.t h1, f.blk h.m h2, h.ok⟩
theorem TabAt.below {w w1 : World} {gt gm clock : Nat} {fl : Int} {E : List En} (h : TabAt w gt gm fl E clock) (k : Below w.heap.size w w1) : TabAt w1 gt gm fl E clock := h.fr (Fr.of_below k (fun _ => False)) (fun e => e) (fun e => e)
theorem TabAt.c0 {w : World} {gt gm clock : Nat} {fl : Int} {E : List En} (h : TabAt w gt gm fl E clock) : w.cell? ⟨gt, 0, none⟩ = some (.int .u64 fl) := (blk_cell h.t 0).trans rfl
theorem TabAt.c1 {w : World} {gt gm clock : Nat} {fl : Int} {E : List En} (h : TabAt w gt gm fl E clock) : w.cell? ⟨gt, 1, none⟩ = some (.map (some gm)) := (blk_cell h.t 1).trans rfl
theorem EnOk.filter {E : List En} {clock : Nat} (h : EnOk E clock) (p : En → Bool) : EnOk (E.filter p) clock :=
 ⟨h.ids.sublist (List.Sublist.map _ List.filter_sublist), h.borns.sublist (List.Sublist.map _ List.filter_sublist), fun x hx => h.old x ((List.mem_filter.mp hx).1)⟩
theorem born_inj {E : List En} {clock : Nat} (h : EnOk E clock) {x y : En} (hx : x ∈ E) (hy : y ∈ E) (e : x.born = y.born) : x = y := by
 have h1 := h.borns
 clear h
 induction E with
 | nil => cases hx
 | cons z t ih =>
  rw [List.map_cons, List.nodup_cons] at h1
  rcases List.mem_cons.mp hx with rfl | hx' <;> rcases List.mem_cons.mp hy with rfl | hy'
  ·rfl
  ·exact absurd (List.mem_map.mpr ⟨y, hy', e.symm⟩) h1.1
  ·exact absurd (List.mem_map.mpr ⟨x, hx', e⟩) h1.1
  ·exact ih hx' hy' h1.2
theorem id_inj {E : List En} {clock : Nat} (h : EnOk E clock) {x y : En} (hx : x ∈ E) (hy : y ∈ E) (e : x.id = y.id) : x = y := by
 have h1 := h.ids
 clear h
 induction E with
 | nil => cases hx
 | cons z t ih =>
  rw [List.map_cons, List.nodup_cons] at h1
  rcases List.mem_cons.mp hx with rfl | hx' <;> rcases List.mem_cons.mp hy with rfl | hy'
  ·rfl
  ·exact absurd (List.mem_map.mpr ⟨y, hy', e.symm⟩) h1.1
  ·exact absurd (List.mem_map.mpr ⟨x, hx', e⟩) h1.1
  ·exact ih hx' hy' h1.2
/-- A step of a loop over the map. -/
theorem next_step {w : World} {r gm since clock : Nat} {seen : Array Nat} {E : List En} (hr : w.heap[r]? = some (.mapIter (some gm) clock seen clock)) (hb : MapAt w gm E clock) (ok : EnOk E clock) (ty : TypeId) :
  ((∀ x ∈ E, seen.contains x.born = true) ∧ (Instr.next (.pointer (some ⟨r, 0, none⟩)) false ty).run Tryz.prog w = .ok (.tuple #[.bool false]) w) ∨
  ∃ x ∈ E, seen.contains x.born = false ∧ ∃ w2, (Instr.next (.pointer (some ⟨r, 0, none⟩)) false ty).run Tryz.prog w = .ok (.tuple #[.bool true, .int .u64 x.id, .pointer (some ⟨x.b, 0, none⟩)]) w2 ∧
   w2.heap[r]? = some (.mapIter (some gm) clock (seen.push x.born) clock) ∧ MapAt w2 gm E clock ∧ Fr w w2 (fun k => k = r) ∧ (Instr.entry (.pointer (some ⟨r, 0, none⟩))).run Tryz.prog w2 = .ok (.tuple #[.int .u64 x.id, .pointer (some ⟨x.b, 0, none⟩)]) w2 := by
 have hne : r ≠ gm := by
  rintro rfl
  rw [show w.heap[r]? = _ from hb] at hr
  cases hr
 have hbm : w.heap[gm]? = some (.map (E.map En.e).toArray clock) := hb
 have hold : ∀ x ∈ (E.map En.e).toArray.toList, x.born < clock := fun x hx => by
  simp only [List.mem_map] at hx
  obtain ⟨y, hy, rfl⟩ := hx
  exact ok.old y hy
 rcases run_next_at (P := Tryz.prog) w ty r gm clock clock seen _ clock hr hbm hold (Nat.le_refl _) with ⟨h0, hrun⟩ | ⟨e, he, w1, hw1, hrun⟩
 ·refine .inl ⟨fun x hx => ?_, hrun⟩
  cases hc : seen.contains x.born with
  | true => rfl
  | false =>
   have : x.e ∈ (leftOf (E.map En.e).toArray seen) := by
    unfold leftOf
    rw [Array.mem_filter]
    exact ⟨by simpa using ⟨x, hx, rfl⟩, by simpa [En.e] using hc⟩
   have h2 := Array.eq_empty_of_size_eq_zero h0
   rw [h2] at this
   simp at this
 ·have he2 : e ∈ leftOf (E.map En.e).toArray seen := by simpa using he
  unfold leftOf at he2
  rw [Array.mem_filter] at he2
  obtain ⟨h3, h4⟩ := he2
  have h5 : e ∈ E.map En.e := by simpa using h3
  obtain ⟨x, hx, rfl⟩ := List.mem_map.mp h5
  have hf : Fr w w1 (fun _ => False) := by rcases hw1 with rfl | rfl; exact Fr.refl _ _; exact (Fr.refl _ _).drew
  have hb1 : MapAt w1 gm E clock := hf.blk hbm (fun e => e)
  have hr1 := hf.blk hr (fun e => e)
  refine .inr ⟨x, hx, by simpa [En.e] using h4, _, hrun, setBlock_at hr1, (setBlock_far hne.symm).trans hb1, (hf.mono (fun _ e => e.elim)).trans fr_setBlock (fun k e => .inl e), ?_⟩
  exact run_entry_at _ r gm clock seen _ clock x.e (setBlock_at hr1) ((setBlock_far hne.symm).trans hb1) (by simpa using ⟨x, hx, rfl⟩) (by
   have h6 : (E.map En.e).toArray.toList.map (·.born) = E.map (·.born) := by simp [List.map_map]; intro a _; rfl
   rw [h6]
   exact ok.borns)
theorem neqSome (bm : Nat) (w : World) : (Go.binOp .neq 89 (.map (some bm)) (.map none)).run Tryz.prog w = .ok (.bool true) w := by kernel_rfl
set_option maxHeartbeats 4000000 in
set_option maxRecDepth 100000 in
theorem new_calls (w : World) : Calls Tryz.prog 11 #[] w fun e w' => ∃ gt gm, e = .returned (.pointer (some ⟨gt, 0, none⟩)) ∧ TabAt w' gt gm 1 [] 0 ∧ w.heap.size ≤ gt ∧ w.heap.size ≤ gm ∧ Below w.heap.size w w' := by
 have HB := Aside0.mk (Below.refl w.heap.size w)
 have hm : ∀ W : World, (Instr.makeMap 89 none).run Tryz.prog W = .ok (.map (some W.heap.size)) (W.alloc (.map #[] 0)) := fun _ => rfl
 go_enter Tryz.func11, Tryz.ntmps11
 go_wp2_with (first
  | ((with_reducible refine gate_dst (N := 3) rfl ?_); refine box_v rfl rfl rfl ?_; intro gt hg w1 hb hw; have HX1 : Aside0 (TabAt w1 gt w.heap.size 1 [] 0 ∧ w.heap.size ≤ gt ∧ Below w.heap.size w w1) := ⟨⟨hb, (hw.block w.heap.size (by simp)).trans (heap_alloc_new w _), ⟨List.nodup_nil, List.nodup_nil, fun x hx => by cases hx⟩⟩, by rw [hg]; simp, below_step (below_alloc (Below.refl _ _) _) hw⟩; clear hb hw hg))
 go_ret
 exact ⟨_, _, rfl, HX1.out.1, HX1.out.2.1, Nat.le_refl _, HX1.out.2.2⟩
set_option maxHeartbeats 4000000 in
set_option maxRecDepth 100000 in
theorem made_calls (gt gm : Nat) (fl : Int) (E : List En) (clock : Nat) (w : World) (h : TabAt w gt gm fl E clock) : Calls Tryz.prog 41 #[.pointer (some ⟨gt, 0, none⟩)] w fun e w' => e = .returned (.bool true) ∧ w' = w := by
 have h1 := h.c1
 have E1 : ∀ W, (Go.binOp .neq 89 (.map (some gm)) (.map none)).run Tryz.prog W = .ok (.bool true) W := fun W => neqSome gm W
 go_enter Tryz.func41, Tryz.ntmps41
 go_wp2
 go_ret
 exact ⟨rfl, rfl⟩
end Go.Proofs.YteadamkkbgnpeaaGreat.J
end OfJ2
section OfJ3
set_option linter.unusedVariables false
set_option linter.unusedSimpArgs false
namespace Go.Proofs.YteadamkkbgnpeaaGreat.J
open Go.RowKit Go.ChangeMaps YteadamkkbgnpeaaGreatW.PrintLast F M A B S QTC YteadamkkbgnpeaaGreatW.PrintWords YteadamkkbgnpeaaGreatW.PrintMore
theorem range_run {w : World} {m clock : Nat} {E : List En} (h : MapAt w m E clock) :
  (Instr.range 89 (.map (some m))).run Tryz.prog w = .ok (.pointer (some ⟨w.heap.size, 0, none⟩)) (w.alloc (.mapIter (some m) clock #[] clock)) := by
 have h3 : w.heap[m]? = some (.map (E.map En.e).toArray clock) := h
 simp [Instr.range, run_underlying Tryz.underlying89, MapKept.run_getObj_map h3, Result.andThen]
theorem TabAt.raise {w : World} {gt gm clock : Nat} {fl : Int} {E : List En} (h : TabAt w gt gm fl E clock) (f : Int) : TabAt (w.setCell ⟨gt, 0, none⟩ (.int .u64 f)) gt gm f E clock :=
 ⟨blk_set h.t 0 _, (Below.heap_setCell w _ _ gm h.ne.symm).trans h.m, h.ok⟩
theorem push_has (seen : Array Nat) (a b : Nat) : (seen.push a).contains b = (seen.contains b || b == a) := by
 rw [Bool.eq_iff_iff]
 simp
/-- How many entries a loop has yet to see. -/
def unseen (E : List En) (seen : Array Nat) : Nat := (E.filter (fun x => !seen.contains x.born)).length
theorem unseen_push {E : List En} {seen : Array Nat} {x : En} (hx : x ∈ E) (hs : seen.contains x.born = false) : unseen E (seen.push x.born) < unseen E seen := by
 unfold unseen
 have key : ∀ L : List En, (L.filter (fun y => !(seen.push x.born).contains y.born)).length ≤ (L.filter (fun y => !seen.contains y.born)).length ∧ (x ∈ L → (L.filter (fun y => !(seen.push x.born).contains y.born)).length < (L.filter (fun y => !seen.contains y.born)).length) := by
  intro L
  induction L with
  | nil => exact ⟨Nat.le_refl _, fun h => by cases h⟩
  | cons z t ih =>
   rw [List.filter_cons, List.filter_cons]
   have hc : ((seen.push x.born).contains z.born) = (seen.contains z.born || z.born == x.born) := push_has _ _ _
   rw [hc]
   cases h1 : seen.contains z.born with
   | true => 
    simp only [Bool.true_or, Bool.not_true, Bool.false_eq_true, if_false]
    refine ⟨ih.1, fun h => ih.2 ((List.mem_cons.mp h).resolve_left (fun e => by rw [e, h1] at hs; cases hs))⟩
   | false =>
    cases h2 : (z.born == x.born) with
    | true =>
     simp only [Bool.false_or, Bool.not_true, Bool.false_eq_true, if_false, Bool.not_false, if_true, List.length_cons]
     exact ⟨by omega, fun _ => by omega⟩
    | false =>
     simp only [Bool.false_or, Bool.false_eq_true, if_false, Bool.not_false, if_true, List.length_cons]
     exact ⟨by omega, fun h => by
      have := ih.2 ((List.mem_cons.mp h).resolve_left (fun e => by rw [e] at h2; simp at h2))
      omega⟩
 exact (key E).2 hx
/-- What is left of the entries when those seen that are below f went. -/
def keep (E : List En) (f : Int) (seen : Array Nat) : List En := E.filter (fun x => !(seen.contains x.born && decide (x.id < f)))
theorem keep_none (E : List En) (f : Int) : keep E f #[] = E := by
 unfold keep
 exact List.filter_eq_self.mpr (fun x _ => by simp)
theorem keep_all {E : List En} {f : Int} {seen : Array Nat} (h : ∀ x ∈ keep E f seen, seen.contains x.born = true) : keep E f seen = E.filter (fun x => decide (f ≤ x.id)) := by
 unfold keep at h ⊢
 refine List.filter_congr fun x hx => ?_
 by_cases hl : x.id < f
 ·cases hs : seen.contains x.born with
  | true => simp [hl]
  | false =>
   have := h x (List.mem_filter.mpr ⟨hx, by rw [hs]; rfl⟩)
   rw [hs] at this
   cases this
 ·simp [hl]; omega
theorem keep_stay {E : List En} {clock : Nat} {f : Int} {seen : Array Nat} {x : En} (ok : EnOk E clock) (hx : x ∈ E) (hl : ¬ x.id < f) : keep E f (seen.push x.born) = keep E f seen := by
 unfold keep
 refine List.filter_congr fun y hy => ?_
 have hc : ((seen.push x.born).contains y.born) = (seen.contains y.born || y.born == x.born) := push_has _ _ _
 rw [hc]
 cases h2 : (y.born == x.born) with
 | true =>
  have := born_inj ok hy hx (beq_iff_eq.mp h2)
  subst this
  simp [hl]
 | false => simp
theorem keep_go {E : List En} {clock : Nat} {f : Int} {seen : Array Nat} {x : En} (ok : EnOk E clock) (hx : x ∈ E) (hl : x.id < f) : keep E f (seen.push x.born) = (keep E f seen).filter (fun y => y.id ≠ x.id) := by
 unfold keep
 rw [List.filter_filter]
 refine List.filter_congr fun y hy => ?_
 have hc : ((seen.push x.born).contains y.born) = (seen.contains y.born || y.born == x.born) := push_has _ _ _
 rw [hc]
 cases h2 : (y.born == x.born) with
 | true =>
  have := born_inj ok hy hx (beq_iff_eq.mp h2)
  subst this
  simp [hl]
 | false =>
  have : y.id ≠ x.id := fun e => by
   have := id_inj ok hy hx e
   rw [this] at h2
   simp at h2
  simp [this]
theorem keep_ok {E : List En} {clock : Nat} (ok : EnOk E clock) (f : Int) (seen : Array Nat) : EnOk (keep E f seen) clock := ok.filter _
end Go.Proofs.YteadamkkbgnpeaaGreat.J
end OfJ3
section OfJ4
set_option linter.unusedVariables false
set_option linter.unusedSimpArgs false
namespace Go.Proofs.YteadamkkbgnpeaaGreat.J
open Go.RowKit Go.ChangeMaps YteadamkkbgnpeaaGreatW.PrintLast F M A B S QTC YteadamkkbgnpeaaGreatW.PrintWords YteadamkkbgnpeaaGreatW.PrintMore
theorem ne_objs {w : World} {a b : Nat} {o o' : Obj} (h : w.heap[a]? = some o) (h' : w.heap[b]? = some o') (hne : o ≠ o') : a ≠ b := by
 rintro rfl
 rw [h] at h'
 injection h' with h'
 exact hne h'
/-- All entries were seen. -/
structure AllSeen (E : List En) (seen : Array Nat) : Prop where
 out : ∀ x ∈ E, seen.contains x.born = true
/-- One more entry is seen. -/
structure OneSeen (w w2 : World) (r gm clock : Nat) (E : List En) (seen : Array Nat) (x : En) : Prop where
 mem : x ∈ E
 new : seen.contains x.born = false
 it : w2.heap[r]? = some (.mapIter (some gm) clock (seen.push x.born) clock)
 map : MapAt w2 gm E clock
 fr : Fr w w2 (fun k => k = r)
section
variable {ops : Array Oper} {rest : List Oper} {o : Oper} {a : Act} {Q : Exit → Act → World → Prop} {W : World}
theorem range_v {x : Operand} {m clock : Nat} {E : List En} (hgd : o.guard = none) (ho : o.op = .range 89 x) (hx : a.eval x = .map (some m)) (h : MapAt W m E clock)
  (k : ∀ r w1, r = W.heap.size → w1.heap[r]? = some (.mapIter (some m) clock #[] clock) → Below W.heap.size W w1 → wpList Tryz.prog ops Q rest (a.put o.dst (.pointer (some ⟨r, 0, none⟩))) w1) : wpList Tryz.prog ops Q (o :: rest) a W := by
 refine Kd.event_run hgd (v := .pointer (some ⟨W.heap.size, 0, none⟩)) (w1 := W.alloc (.mapIter (some m) clock #[] clock)) ?_ (k _ _ rfl (heap_alloc_new W _) (below_alloc (Below.refl _ _) _))
 unfold execOp
 simp only [ho, hx]
 simp [range_run h, Sem.run_bind, Result.andThen]
theorem next_v {x : Operand} {r gm clock : Nat} {seen : Array Nat} {E : List En} (hgd : o.guard = none) (ho : o.op = .next x false) (hx : a.eval x = .pointer (some ⟨r, 0, none⟩)) (hr : W.heap[r]? = some (.mapIter (some gm) clock seen clock)) (hb : MapAt W gm E clock) (ok : EnOk E clock)
  (k1 : AllSeen E seen → wpList Tryz.prog ops Q rest (a.put o.dst (.tuple #[.bool false])) W)
  (k2 : ∀ x w2, OneSeen W w2 r gm clock E seen x →
   (Instr.entry (.pointer (some ⟨r, 0, none⟩))).run Tryz.prog w2 = .ok (.tuple #[.int .u64 x.id, .pointer (some ⟨x.b, 0, none⟩)]) w2 → wpList Tryz.prog ops Q rest (a.put o.dst (.tuple #[.bool true, .int .u64 x.id, .pointer (some ⟨x.b, 0, none⟩)])) w2) : wpList Tryz.prog ops Q (o :: rest) a W := by
 rcases next_step (since := 0) hr hb ok o.type with ⟨h1, h2⟩ | ⟨y, hy, hs, w2, h2, h3, h4, h5, h6⟩
 ·refine Kd.event_run hgd (v := .tuple #[.bool false]) (w1 := W) ?_ (k1 ⟨h1⟩)
  unfold execOp
  simp only [ho, hx]
  simp [h2, Sem.run_bind, Result.andThen]
 ·refine Kd.event_run hgd (v := .tuple #[.bool true, .int .u64 y.id, .pointer (some ⟨y.b, 0, none⟩)]) (w1 := w2) ?_ (k2 y w2 ⟨hy, hs, h3, h4, h5⟩ h6)
  unfold execOp
  simp only [ho, hx]
  simp [h2, Sem.run_bind, Result.andThen]
theorem delete_v {x y : Operand} {gm clock : Nat} {E : List En} {id : Int} (hgd : o.guard = none) (ho : o.op = Op.call { callee := Callee.builtin Builtin.delete, args := #[x, y], argTypes := #[89, 57] }) (hx : a.eval x = .map (some gm)) (hy : a.eval y = .int .u64 id) (hb : MapAt W gm E clock) (ok : EnOk E clock)
  (k : ∀ w2, MapAt w2 gm (E.filter (fun x => x.id ≠ id)) clock → Fr W w2 (fun k => k = gm) → wpList Tryz.prog ops Q rest (a.put o.dst (.tuple #[])) w2) : wpList Tryz.prog ops Q (o :: rest) a W := by
 refine Kd.event_run hgd (v := .tuple #[]) (w1 := _) ?_ (k _ (setBlock_at hb) fr_setBlock)
 unfold execOp
 simp only [ho, hx]
 simp [resolve, invoke, builtin, hx, hy, delete_run hb ok.ids id, Sem.run_bind, Result.andThen]
end
set_option maxHeartbeats 4000000 in
set_option maxRecDepth 100000 in
theorem raise_calls (gt gm : Nat) (fl f : Int) (E : List En) (clock : Nat) (w : World) (h : TabAt w gt gm fl E clock) :
  Calls Tryz.prog 44 #[.pointer (some ⟨gt, 0, none⟩), .int .u64 f] w fun e w' => e = .returned (.tuple #[]) ∧ TabAt w' gt gm f (E.filter (fun x => decide (f ≤ x.id))) clock ∧ Fr w w' (fun k => k = gt ∨ k = gm) := by
 have h0 := h.c0
 have hz : w.frozen? ⟨gt, 0, none⟩ = false := blk_frozen h.t 0
 have HX1 : Aside0 (TabAt (w.setCell ⟨gt, 0, none⟩ (.int .u64 f)) gt gm f E clock ∧ Fr w (w.setCell ⟨gt, 0, none⟩ (.int .u64 f)) (fun k => k = gt ∨ k = gm)) := ⟨h.raise f, (Fr.refl _ _).setCell (p := ⟨gt, 0, none⟩) (.inl (.inl rfl)) _⟩
 have HOK := Aside0.mk h.ok
 have hc1 := HX1.out.1.c1
 clear h
 go_enter Tryz.func44, Tryz.ntmps44
 go_wp2_with (first
  | ((with_reducible refine gate_dst (N := 13) rfl ?_); refine range_v rfl rfl rfl HX1.out.1.m ?_; intro r w2 hr hi hw; have HX2 : Aside0 (TabAt w2 gt gm f E clock ∧ Fr w w2 (fun k => k = gt ∨ k = gm) ∧ w2.heap[r]? = some (.mapIter (some gm) clock #[] clock) ∧ w.heap.size ≤ r) := ⟨HX1.out.1.below hw, HX1.out.2.then_below hw, hi, by rw [hr]; exact HX1.out.2.size⟩; clear hi hw hr))
 go_frame
 go_loopg [4] (E.length + 1) (fun kq v4 w' => ∃ seen : Array Nat, Aside0 (unseen E seen < kq) ∧ Aside0 (w'.heap[r]? = some (.mapIter (some gm) clock seen clock)) ∧ Aside0 (TabAt w' gt gm f (keep E f seen) clock ∧ Fr w w' (fun k => k = gt ∨ k = gm)))
 case atStart => exact ⟨#[], ⟨by have := List.length_filter_le (fun x : En => !(#[] : Array Nat).contains x.born) E; unfold unseen; omega⟩, ⟨HX2.out.2.2.1⟩, ⟨by rw [keep_none]; exact HX2.out.1, HX2.out.2.1⟩⟩
 case round =>
  obtain ⟨seen, HN, HI, HT⟩ := hrel
  go_wp2_with (first
   | ((with_reducible refine gate_dst (N := 14) rfl ?_); refine next_v rfl rfl rfl HI.out HT.out.1.m HT.out.1.ok ?_ ?_))
  case refine_1 =>
   intro hs
   have hk := keep_all hs.out
   rw [hk] at HT
   go_wp2
   go_end0
   exact ⟨rfl, HT.out.1, HT.out.2⟩
  case refine_2 =>
   intro x w3 hx3 hen
   have hxE := (List.mem_filter.mp hx3.mem).1
   have HN3 : Aside0 (unseen E (seen.push x.born) < gk - 1 ∧ 1 ≤ gk) := ⟨by have := HN.out; have := unseen_push hxE hx3.new; omega, by have := HN.out; omega⟩
   have hrt := ne_objs HI.out HT.out.1.t (by intro h; cases h)
   have hrm := ne_objs HI.out HT.out.1.m (by intro h; cases h)
   have HX3 : Aside0 (TabAt w3 gt gm f (keep E f seen) clock ∧ Fr w w3 (fun k => k = gt ∨ k = gm)) := ⟨⟨(hx3.fr.blk HT.out.1.t (Ne.symm hrt)), hx3.map, HT.out.1.ok⟩, HT.out.2.trans hx3.fr (fun k e => .inr (by rw [e]; exact HX2.out.2.2.2))⟩
   have hc3 := HX3.out.1.c1
   by_cases c1 : x.id < f
   ·have c1b : decide (x.id < f) = true := decide_eq_true c1
    have hkeep := keep_go HOK.out hxE c1 (seen := seen)
    go_wp2_with (first
     | (refine delete_v (gm := gm) rfl rfl rfl rfl HX3.out.1.m HX3.out.1.ok ?_; intro w4 hm4 hf4; have HX4 : Aside0 (TabAt w4 gt gm f (keep E f (seen.push x.born)) clock ∧ Fr w w4 (fun k => k = gt ∨ k = gm) ∧ w4.heap[r]? = some (.mapIter (some gm) clock (seen.push x.born) clock)) := ⟨⟨hf4.blk HX3.out.1.t HX3.out.1.ne, by rw [hkeep]; exact hm4, keep_ok HOK.out _ _⟩, HX3.out.2.trans hf4 (fun k e => .inl (.inr e)), hf4.blk hx3.it hrm⟩; clear hm4 hf4))
    go_roundg (gk - 1)
    case measure => have := HN3.out; omega
    case rel => exact ⟨_, ⟨HN3.out.1⟩, ⟨HX4.out.2.2⟩, ⟨HX4.out.1, HX4.out.2.1⟩⟩
   ·have c1b : decide (x.id < f) = false := decide_eq_false c1
    have HX4 : Aside0 (TabAt w3 gt gm f (keep E f (seen.push x.born)) clock) := ⟨by rw [keep_stay HOK.out hxE c1]; exact HX3.out.1⟩
    go_wp2
    go_roundg (gk - 1)
    case measure => have := HN3.out; omega
    case rel => exact ⟨_, ⟨HN3.out.1⟩, ⟨hx3.it⟩, ⟨HX4.out, HX3.out.2⟩⟩
end Go.Proofs.YteadamkkbgnpeaaGreat.J
end OfJ4
