/- The row of TopCarried: whatever secret, frames and comings come in, the law returns true, and they read as they did. No condition. -/
import Derived.Test.YteadamkkbgnpeaaGreatRows
import Derived.Test.YteadamkkbgnpeaaGreatT06
import Derived.WalkKit
import Derived.ProofKit
import Derived.OpenShut
import Derived.ShutString
import Derived.ChangeOld
import Derived.Below
import Derived.SizedLaws
namespace Go.Proofs.YteadamkkbgnpeaaGreat.topCarried
open Go.ChangeShapes Go.WideShapes Go.ChangeAt Go.RowKit K YteadamkkbgnpeaaGreatW.PrintWords
set_option linter.unusedVariables false
theorem own : ownKnob Tryz.prog.godebug = none := by kernel_rfl
theorem laidOut : laidOutB Tryz.prog = true := by kernel_rfl
set_option maxRecDepth 100000 in
theorem lifted (os : Os) (started : os.Started) (H : Type) (enc : TypeId × Value → H) :
  ReturnsInHanded {} Tryz.checked os 3 .any (Rows.topCarriedSpec.pre6 enc Tryz.prog Tryz.f3 Rows.topCarriedRow.domain false) (Rows.topCarriedSpec.post enc Tryz.prog Tryz.f3 false true false false) := by
 refine returnsInHanded_of_change_sized (C := Tryz.checked) own started (by kernel_rfl) Tryz.func3
  (ChangeSpec.witness6 (enc := enc) (C := Tryz.checked) false ⟨#[], #[.slice none 0 0, .slice none 0 0, .slice none 0 0], []⟩ 8 (by kernel_rfl) (by kernel_rfl) (by kernel_rfl) (by kernel_rfl)) ?_
 intro W base args ds gs before hval0 hW hcnd hsz0 _
 have hval : ∀ (j : Nat) t v, Tryz.f3.params[j]? = some t → args[j]? = some v → Value.okWide Tryz.prog W .any base t v := hval0
 have hW' := hW
 obtain ⟨p, q, hA0, hV, rfl, hfz, hnd⟩ := hW
 have hA : DataW.TrodAll enc Tryz.prog W 0 (fun _ => true) true Tryz.f3.params.toList args.toList ds p := hA0
 rw [Tryz.params3] at hA hval
 obtain ⟨v0, vs0, d0, ds0, p0, q0, hargs, rfl, rfl, h0, r0⟩ := trodAll_cons hA
 obtain ⟨v1, vs1, d1, ds1, p1, q1, rfl, rfl, rfl, h1, r1⟩ := trodAll_cons r0
 obtain ⟨v2, vs2, d2, ds2, p2, q2, rfl, rfl, rfl, h2, r2⟩ := trodAll_cons r1
 obtain ⟨rfl, rfl, rfl⟩ := trodAll_nil r2
 obtain rfl : args = #[v0, v1, v2] := by cases args; simp_all
 obtain ⟨rfl, rfl⟩ := trodVars_none hV
 obtain ⟨a0, len0, cap0, rfl⟩ := okWide_slice Tryz.underlying22 (hval 0 22 v0 rfl rfl)
 have k0 := h0
 have lt0 : ∀ x ∈ p0, x.block < W.heap.size := by obtain ⟨m, hm⟩ := k0; exact DataW.trod_lt m _ _ _ hm
 obtain ⟨z0, hz0, hc0, hC0⟩ : ∃ zs : List Int, zs.length = len0 ∧ len0 ≤ cap0 ∧ (Kd.int .u8).C W a0 zs.length zs := by
  obtain ⟨fuel, hf⟩ := h0
  rcases open_ints Tryz.underlying22 Tryz.underlying5 (by kernel_rfl) hf with ⟨hcs, _⟩ | ⟨x, l, c, zs, hcs, _, hl, hm, hz, _, hcell, hwz⟩
  ·simp [Value.cells] at hcs
   obtain ⟨rfl, rfl, rfl⟩ := hcs
   exact ⟨[], rfl, Nat.le_refl _, Kd.C_nil _ _⟩
  ·simp [Value.cells] at hcs
   obtain ⟨rfl, rfl, rfl⟩ := hcs
   have hzl : zs.length = cap0 := by simpa using hz
   refine ⟨zs.take len0, by rw [List.length_take]; omega, hl, C_of_cells (n := len0) (by rw [List.length_take]; omega) (by omega) (fun e => by cases e) (fun a e c hc => ?_)⟩
   cases e
   rw [List.getD_eq_getElem?_getD, List.getElem?_take_of_lt hc, ← List.getD_eq_getElem?_getD]
   exact hcell c (by omega)
 obtain ⟨a1, len1, cap1, rfl⟩ := okWide_slice Tryz.underlying23 (hval 1 23 v1 rfl rfl)
 have k1 := h1
 have lt1 : ∀ x ∈ p1, x.block < W.heap.size := by obtain ⟨m, hm⟩ := k1; exact DataW.trod_lt m _ _ _ hm
 obtain ⟨F, hF, hFR⟩ : ∃ F : List (List Int), F.length = len1 ∧ FRows W a1 F := by
  obtain ⟨fuel, hf⟩ := h1
  rcases Go.Deep.open_int_rows Tryz.underlying23 Tryz.underlying22 Tryz.underlying5 (by kernel_rfl) (by kernel_rfl) hf with ⟨hcs, _⟩ | ⟨x, l, c, A, L, C, Z, hcs, _, hl, hm, _, hrow⟩
  ·simp [Value.cells] at hcs
   obtain ⟨rfl, rfl, rfl⟩ := hcs
   exact ⟨[], rfl, fun j hj => absurd hj (Nat.not_lt_zero _), fun j hj => absurd hj (Nat.not_lt_zero _)⟩
  ·simp [Value.cells] at hcs
   obtain ⟨rfl, rfl, rfl⟩ := hcs
   have hget : ∀ j, j < len1 → ((List.range len1).map (fun r => (Z r).take (L r))).getD j [] = (Z j).take (L j) := fun j hj => by simp [List.getD_eq_getElem?_getD, hj]
   refine ⟨(List.range len1).map (fun r => (Z r).take (L r)), by simp, fun j hj => ?_, fun j hj => ?_⟩
   ·have hj' : j < len1 := by simpa using hj
    obtain ⟨g1, g2, g3, g4, g5, g6, g7⟩ := hrow j (by omega)
    have hlen : ((Z j).take (L j)).length = L j := by rw [List.length_take]; omega
    rw [hget j hj', hlen]
    refine ⟨x, A j, C j, rfl, g1, g2, ?_⟩
    have := C_of_cells (k := .u8) (w := W) (A := A j) (n := L j) (l := (Z j).take (L j)) hlen (by omega) (fun e => by have := g6 e; omega) (fun a e c hc => by
     rw [List.getD_eq_getElem?_getD, List.getElem?_take_of_lt hc, ← List.getD_eq_getElem?_getD]
     exact (g7 a e).2 c (by omega))
    rw [hlen] at this
    exact this
   ·have hj' : j < len1 := by simpa using hj
    obtain ⟨g1, g2, g3, g4, g5, g6, g7⟩ := hrow j (by omega)
    rw [hget j hj']
    intro y hy
    have := bounds_u8 (g5 y (List.mem_of_mem_take hy))
    omega
 obtain ⟨a2, len2, cap2, rfl⟩ := okWide_slice Tryz.underlying24 (hval 2 24 v2 rfl rfl)
 have k2 := h2
 have lt2 : ∀ x ∈ p2, x.block < W.heap.size := by obtain ⟨m, hm⟩ := k2; exact DataW.trod_lt m _ _ _ hm
 obtain ⟨z2, hz2, hC2, hu2⟩ : ∃ zs : List Int, zs.length = len2 ∧ (Kd.int .u16).C W a2 zs.length zs ∧ ∀ x ∈ zs, 0 ≤ x ∧ x < 65536 := by
  obtain ⟨fuel, hf⟩ := h2
  rcases open_ints Tryz.underlying24 Tryz.underlying33 (by kernel_rfl) hf with ⟨hcs, _⟩ | ⟨x, l, c, zs, hcs, _, hl, hm, hz, _, hcell, hwz⟩
  ·simp [Value.cells] at hcs
   obtain ⟨rfl, rfl, rfl⟩ := hcs
   exact ⟨[], rfl, Kd.C_nil _ _, fun x hx => by cases hx⟩
  ·simp [Value.cells] at hcs
   obtain ⟨rfl, rfl, rfl⟩ := hcs
   have hzl : zs.length = cap2 := by simpa using hz
   refine ⟨zs.take len2, by rw [List.length_take]; omega, C_of_cells (n := len2) (by rw [List.length_take]; omega) (by omega) (fun e => by cases e) (fun a e c hc => ?_), fun y hy => ?_⟩
   ·cases e
    rw [List.getD_eq_getElem?_getD, List.getElem?_take_of_lt hc, ← List.getD_eq_getElem?_getD]
    exact hcell c (by omega)
   ·have := bounds_u16 (hwz y (List.mem_of_mem_take hy))
    omega
 clear hA0 hval0 hsz0
 refine (top_calls z0 F z2 len0 len1 len2 a0 a1 a2 cap0 cap1 cap2 W hz0 hc0 hC0 hF hFR hz2 hC2 hu2).mono fun e W' ⟨he, bel⟩ => ?_
 subst he
 exact ⟨_, rfl, _, _, _, [], _, [], hW', trodAll_mk1 (shut_bool Tryz.underlying4 _), (trodAll_cons_mk (Below.trod laidOut (by kernel_rfl) (of_decide_eq_true (by kernel_rfl)) k0 bel lt0) (trodAll_cons_mk (Below.trod laidOut (by kernel_rfl) (of_decide_eq_true (by kernel_rfl)) k1 bel lt1) (trodAll_cons_mk (Below.trod laidOut (by kernel_rfl) (of_decide_eq_true (by kernel_rfl)) k2 bel lt2) trodAll_mk0))), rfl, bel.frame _, fun h => by cases h⟩
theorem over : Rows.topCarriedRow.holds Tryz.pinned (OpenSpec.ofChange Rows.topCarriedSpec) :=
 OpenClaim.holds_of_wide 3 Tryz.f3 rfl rfl rfl rfl rfl rfl rfl ⟨rfl, rfl, rfl, rfl, rfl⟩ rfl rfl rfl rfl rfl (by kernel_rfl) Tryz.func3 (by kernel_rfl)
  (of_decide_eq_true (by kernel_rfl)) (by unfold Func.isWrapper; first | (rw [if_pos (by decide +kernel)]; kernel_rfl) | (rw [if_neg (by decide +kernel)]; exact ⟨rfl, rfl⟩))
  (fun os started H enc _ => lifted os started H enc)
theorem proved : Rows.TopCarriedSaid := over
#print axioms proved
end Go.Proofs.YteadamkkbgnpeaaGreat.topCarried
namespace Go.Proofs.YteadamkkbgnpeaaGreat
/-- The row, under a short name, for the claim. -/
theorem topCarried_holds : Rows.TopCarriedSaid := topCarried.proved
end Go.Proofs.YteadamkkbgnpeaaGreat
