/- PeerLives: whatever is heard, a peer tells what the document says. The walk is PX4's. Turned from the printed LawPeerWindow. -/
import Derived.Test.YtgefndjbcabioaaRows
import Derived.Test.YtgefndjbcabioaaPX4
import Derived.WalkKit
import Derived.ProofKit
import Derived.OpenShut
import Derived.ShutString
import Derived.ChangeOld
import Derived.Below
import Derived.SizedLaws
import Derived.Test.YtgefndjbcabioaaWSized
import Derived.Test.YtgefndjbcabioaaOwnRows
namespace Go.Proofs.Ytgefndjbcabioaa.peerLives
open Go.ChangeShapes Go.WideShapes Go.ChangeAt Go.RowKit
open Go.ChangeMaps (open_string shut_string)
set_option linter.unusedVariables false
theorem own : ownKnob Try.prog.godebug = none := by kernel_rfl
theorem laidOut : laidOutB Try.prog = true := by kernel_rfl
def IsRow (k : IntKind) (w : World) (a : Option Addr) (len cap : Nat) (zs : List Int) : Prop :=
  (a = none ∧ len = 0 ∧ cap = 0 ∧ zs = []) ∨
  ∃ x, a = some x ∧ len ≤ cap ∧ cap ≤ maxLen ∧ zs.length = cap ∧ (∀ i, i < zs.length → w.cell? (x.add i) = some (.int k (zs.getD i 0))) ∧ ∀ n ∈ zs, (Lit.int k n).wf = true
set_option maxRecDepth 100000 in
theorem lifted (os : Os) (started : os.Started) (H : Type) (enc : TypeId × Value → H) :
    ReturnsInHanded {} Try.checked os 9 .any (Rows.peerLivesSpec.pre6 enc Try.prog Try.f9 Rows.peerLivesRow.domain false) (Rows.peerLivesSpec.post enc Try.prog Try.f9 false true false false) := by
  refine returnsInHanded_of_change_sized (C := Try.checked) own started (by kernel_rfl) Try.func9
    (ChangeSpec.witness6 (enc := enc) (C := Try.checked) false ⟨#[], #[.slice none 0 0, .int .u64 0], []⟩ 8 (by kernel_rfl) (by kernel_rfl) (by kernel_rfl) (by kernel_rfl)) ?_
  intro W base args ds gs before hval0 hW hcnd hsz0 _
  have hsz : (DataW.weightsEach Try.prog (Try.f9.params.toList ++ Rows.peerLivesSpec.plain.varTypes Try.prog) (ds ++ gs)).all (· ≤ reachBytes) = true := hsz0
  have hval : ∀ (j : Nat) t v, Try.f9.params[j]? = some t → args[j]? = some v → Value.okWide Try.prog W .any base t v := hval0
  have hW' := hW
  obtain ⟨p, q, hA0, hV, rfl, hfz, hnd⟩ := hW
  have hA : DataW.TrodAll enc Try.prog W 0 (fun _ => true) true Try.f9.params.toList args.toList ds p := hA0
  rw [Try.params9] at hA hval hsz
  obtain ⟨v0, vs0, d0, ds0, p0, q0, hargs, rfl, rfl, h0, r0⟩ := trodAll_cons hA
  obtain ⟨v1, vs1, d1, ds1, p1, q1, rfl, rfl, rfl, h1, r1⟩ := trodAll_cons r0
  obtain ⟨rfl, rfl, rfl⟩ := trodAll_nil r1
  obtain rfl : args = #[v0, v1] := by cases args; simp_all
  obtain ⟨rfl, rfl⟩ := trodVars_none hV
  obtain ⟨a0, len0, cap0, rfl⟩ := okWide_slice Try.underlying22 (hval 0 22 v0 rfl rfl)
  have k0 := h0
  have lt0 : ∀ x ∈ p0, x.block < W.heap.size := by obtain ⟨m, hm⟩ := k0; exact DataW.trod_lt m _ _ _ hm
  obtain ⟨zp0, he0, hc0, hm0, hwp0, hcell0, y0⟩ := Go.Proofs.YtgefndjbcabioaaOwn.open_pairs (B := 16) hsz (j := 0) (t := 22) rfl rfl Try.underlying22 Try.underlying32 (by kernel_rfl) rfl rfl (by kernel_rfl) (by kernel_rfl) (by kernel_rfl) Try.underlying29 Try.underlying30 h0
  rw [he0] at hc0 hm0 hcell0 y0
  obtain ⟨l0, hl0⟩ : ∃ l : List QPeer.S32, l = zp0.map (fun p => ⟨p.1, p.2⟩) := ⟨_, rfl⟩
  have hlen0 : len0 = l0.length := by rw [hl0, List.length_map, he0]
  subst hlen0
  have hw0 : ∀ x ∈ l0, (Lit.int .u64 x.f0).wf = true ∧ (Lit.int .u32 x.f1).wf = true := by
    intro x hx
    rw [hl0] at hx
    obtain ⟨p, hp, rfl⟩ := List.mem_map.1 hx
    exact hwp0 p hp
  have hr0 : Go.Proofs.YtgefndjbcabioaaW.PrintWords.Kd.C QPeer.k32 W a0 l0.length l0 := by
    refine ⟨rfl, by unfold maxLen at hm0; omega, fun hn => ?_⟩
    obtain ⟨ad, ha, hx⟩ := hcell0 (by omega)
    refine ⟨ad, ha, fun q x hq => ?_⟩
    rw [hl0, List.getElem?_map] at hq
    cases hz : zp0[q]? with
    | none => rw [hz] at hq; cases hq
    | some p =>
      rw [hz] at hq
      cases hq
      obtain ⟨c0, c1⟩ := hx q p hz
      exact ⟨_, rfl, QPeer.k32_mk W ⟨p.1, p.2⟩, fun z u hu => by match z, hu with | 0, hu => (cases hu; exact c0) | 1, hu => (cases hu; exact c1)⟩
  obtain ⟨a1, rfl, rfl, rfl, w1⟩ := open_int Try.underlying29 (hval 1 29 v1 rfl rfl) h1
  clear hA0 hval0 hsz0 hsz
  refine (PX.lives_walk a0 cap0 l0 a1 W hr0 hc0 hm0 y0 hw0 w1).mono fun e W' ⟨he, bel⟩ => ?_
  subst he
  exact ⟨_, rfl, _, _, _, [], _, [], hW', trodAll_mk1 (shut_bool Try.underlying4 _), (trodAll_cons_mk (Below.trod laidOut (by kernel_rfl) (of_decide_eq_true (by kernel_rfl)) k0 bel lt0) (trodAll_cons_mk (shut_int Try.underlying29 w1) trodAll_mk0)), rfl, bel.frame _, fun h => by cases h⟩
theorem over : Rows.peerLivesRow.holds Try.pinned (OpenSpec.ofChange Rows.peerLivesSpec) :=
  OpenClaim.holds_of_wide 9 Try.f9 rfl rfl rfl rfl rfl rfl rfl ⟨rfl, rfl, rfl, rfl, rfl⟩ rfl rfl rfl rfl rfl (by kernel_rfl) Try.func9 (by kernel_rfl)
    (of_decide_eq_true (by kernel_rfl)) (by unfold Func.isWrapper; first | (rw [if_pos (by decide +kernel)]; kernel_rfl) | (rw [if_neg (by decide +kernel)]; exact ⟨rfl, rfl⟩))
    (fun os started H enc _ => lifted os started H enc)
theorem proved : Rows.PeerLivesSaid := over
#print axioms proved
end Go.Proofs.Ytgefndjbcabioaa.peerLives
namespace Go.Proofs.Ytgefndjbcabioaa
/-- The row, under a short name, for the claim. -/
theorem peerLives_holds : Rows.PeerLivesSaid := peerLives.proved
end Go.Proofs.Ytgefndjbcabioaa
