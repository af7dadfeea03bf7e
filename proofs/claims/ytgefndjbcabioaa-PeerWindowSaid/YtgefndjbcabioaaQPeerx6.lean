-- WRITTEN BY A PROGRAM OF THIS SESSION (out of Lean's own print of the translated functions)
import Derived.Test.YtgefndjbcabioaaQPeerx0
import Derived.Test.YtgefndjbcabioaaQPeerx2
import Derived.Test.YtgefndjbcabioaaQPeerx3
namespace Go.Proofs.Ytgefndjbcabioaa.QPeer
open Go.RowKit Go.Proofs.YtgefndjbcabioaaW.PrintWords Go.Proofs.YtgefndjbcabioaaW.PrintLast Go.Proofs.YtgefndjbcabioaaW.PrintMore
attribute [local go_sem] max2_int min2_int max_two min_two max_three min_three max_four min_four   -- for this text's walks alone
set_option linter.unusedVariables false
set_option linter.unusedSimpArgs false

/-! ### longlinelaw11_PeerWindow: function 5 -/
mutual
def longlinelaw11_PeerWindow.l0 : Nat → List (S32) → Int → Int → Bool → Int → Int → Int → Int → Option (Bool)
  | 0, _, _, _, _, _, _, _, _ => none
  | k + 1, x0, x1, x6, x255000, x255001, x255002, x255003, x255004 => if x6 < (x0.length : Int) then (longlinelaw11_PeerWindow.j1 k x0 x1 x6 (decide (x6 < 100)) x255000 x255001 x255002 x255003 x255004) else (longlinelaw11_PeerWindow.j1 k x0 x1 x6 false x255000 x255001 x255002 x255003 x255004)
def longlinelaw11_PeerWindow.j1 : Nat → List (S32) → Int → Int → Bool → Bool → Int → Int → Int → Int → Option (Bool)
  | 0, _, _, _, _, _, _, _, _, _ => none
  | k + 1, x0, x1, x6, x18, x255000, x255001, x255002, x255003, x255004 => if x18 = true then (if 0 ≤ x6 then (if x6 < (x0.length : Int) then ((peer_Peer_Hear.f k x255000 x255001 x255002 x255003 x255004 ((rd_T32 x0 x6).f0) ((rd_T32 x0 x6).f1)).bind fun bt258 => ((peer_Peer_Newest.f bt258.2.2.1 bt258.2.2.2.1 bt258.2.2.2.2.1 bt258.2.2.2.2.2.1 bt258.2.2.2.2.2.2).bind fun bt265 => (if bt258.2.1 = 0 then ((peer_Peer_Heard.f k bt265.2.1 bt265.2.2.1 bt265.2.2.2.1 bt265.2.2.2.2.1 bt265.2.2.2.2.2 ((rd_T32 x0 x6).f0)).bind fun bt272 => (if bt272.1 = true then (if bt258.2.1 = 1 then (if ((rd_T32 x0 x6).f0) ≥ 1 then (longlinelaw11_PeerWindow.j2 k x0 x1 x6 bt265.1 (decide (((rd_T32 x0 x6).f0) ≤ 9223372036854775807)) bt272.2.1 bt272.2.2.1 bt272.2.2.2.1 bt272.2.2.2.2.1 bt272.2.2.2.2.2) else (longlinelaw11_PeerWindow.j2 k x0 x1 x6 bt265.1 false bt272.2.1 bt272.2.2.1 bt272.2.2.2.1 bt272.2.2.2.2.1 bt272.2.2.2.2.2)) else (longlinelaw11_PeerWindow.j2 k x0 x1 x6 bt265.1 false bt272.2.1 bt272.2.2.1 bt272.2.2.2.1 bt272.2.2.2.2.1 bt272.2.2.2.2.2)) else (longlinelaw11_PeerWindow.j2 k x0 x1 x6 bt265.1 true bt272.2.1 bt272.2.2.1 bt272.2.2.2.1 bt272.2.2.2.2.1 bt272.2.2.2.2.2))) else (if bt258.2.1 = 23 then ((peer_Peer_Heard.f k bt265.2.1 bt265.2.2.1 bt265.2.2.2.1 bt265.2.2.2.2.1 bt265.2.2.2.2.2 ((rd_T32 x0 x6).f0)).bind fun bt281 => (if bt281.1 = true then (if bt258.2.1 = 1 then (if ((rd_T32 x0 x6).f0) ≥ 1 then (longlinelaw11_PeerWindow.j2 k x0 x1 x6 bt265.1 (decide (((rd_T32 x0 x6).f0) ≤ 9223372036854775807)) bt281.2.1 bt281.2.2.1 bt281.2.2.2.1 bt281.2.2.2.2.1 bt281.2.2.2.2.2) else (longlinelaw11_PeerWindow.j2 k x0 x1 x6 bt265.1 false bt281.2.1 bt281.2.2.1 bt281.2.2.2.1 bt281.2.2.2.2.1 bt281.2.2.2.2.2)) else (longlinelaw11_PeerWindow.j2 k x0 x1 x6 bt265.1 false bt281.2.1 bt281.2.2.1 bt281.2.2.2.1 bt281.2.2.2.2.1 bt281.2.2.2.2.2)) else (longlinelaw11_PeerWindow.j2 k x0 x1 x6 bt265.1 true bt281.2.1 bt281.2.2.1 bt281.2.2.2.1 bt281.2.2.2.2.1 bt281.2.2.2.2.2))) else (if bt258.2.1 = 1 then (if ((rd_T32 x0 x6).f0) ≥ 1 then (longlinelaw11_PeerWindow.j2 k x0 x1 x6 bt265.1 (decide (((rd_T32 x0 x6).f0) ≤ 9223372036854775807)) bt265.2.1 bt265.2.2.1 bt265.2.2.2.1 bt265.2.2.2.2.1 bt265.2.2.2.2.2) else (longlinelaw11_PeerWindow.j2 k x0 x1 x6 bt265.1 false bt265.2.1 bt265.2.2.1 bt265.2.2.2.1 bt265.2.2.2.2.1 bt265.2.2.2.2.2)) else (longlinelaw11_PeerWindow.j2 k x0 x1 x6 bt265.1 false bt265.2.1 bt265.2.2.1 bt265.2.2.2.1 bt265.2.2.2.2.1 bt265.2.2.2.2.2)))))) else (none)) else (none)) else ((longlinelaw11_alive.f k).bind fun t255 => (some t255))
def longlinelaw11_PeerWindow.j2 : Nat → List (S32) → Int → Int → Int → Bool → Bool → Int → Int → Int → Int → Option (Bool)
  | 0, _, _, _, _, _, _, _, _, _, _ => none
  | k + 1, x0, x1, x6, x9, x73, x255000, x255001, x255002, x255003, x255004 => if x73 = true then (some false) else (if x1 > x9 then ((peer_Peer_Heard.f k x255000 x255001 x255002 x255003 x255004 x1).bind fun bt291 => (if bt291.1 = true then (some false) else (if x9 > 0 then (if x1 ≤ x9 then (if (IntKind.u64.wrap (x9 - x1)) ≥ 64 then ((peer_Peer_Heard.f k bt291.2.1 bt291.2.2.1 bt291.2.2.2.1 bt291.2.2.2.2.1 bt291.2.2.2.2.2 x1).bind fun bt297 => (if bt297.1 = true then ((peer_Peer_Heard.f k bt297.2.1 bt297.2.2.1 bt297.2.2.2.1 bt297.2.2.2.2.1 bt297.2.2.2.2.2 x9).bind fun bt303 => (if bt303.1 = true then (longlinelaw11_PeerWindow.l0 k x0 x1 (wrap64 (x6 + 1)) bt303.2.1 bt303.2.2.1 bt303.2.2.2.1 bt303.2.2.2.2.1 bt303.2.2.2.2.2) else (some false))) else (some false))) else ((peer_Peer_Heard.f k bt291.2.1 bt291.2.2.1 bt291.2.2.2.1 bt291.2.2.2.2.1 bt291.2.2.2.2.2 x9).bind fun bt309 => (if bt309.1 = true then (longlinelaw11_PeerWindow.l0 k x0 x1 (wrap64 (x6 + 1)) bt309.2.1 bt309.2.2.1 bt309.2.2.2.1 bt309.2.2.2.2.1 bt309.2.2.2.2.2) else (some false)))) else ((peer_Peer_Heard.f k bt291.2.1 bt291.2.2.1 bt291.2.2.2.1 bt291.2.2.2.2.1 bt291.2.2.2.2.2 x9).bind fun bt315 => (if bt315.1 = true then (longlinelaw11_PeerWindow.l0 k x0 x1 (wrap64 (x6 + 1)) bt315.2.1 bt315.2.2.1 bt315.2.2.2.1 bt315.2.2.2.2.1 bt315.2.2.2.2.2) else (some false)))) else (longlinelaw11_PeerWindow.l0 k x0 x1 (wrap64 (x6 + 1)) bt291.2.1 bt291.2.2.1 bt291.2.2.2.1 bt291.2.2.2.2.1 bt291.2.2.2.2.2)))) else (if x9 > 0 then (if x1 ≤ x9 then (if (IntKind.u64.wrap (x9 - x1)) ≥ 64 then ((peer_Peer_Heard.f k x255000 x255001 x255002 x255003 x255004 x1).bind fun bt321 => (if bt321.1 = true then ((peer_Peer_Heard.f k bt321.2.1 bt321.2.2.1 bt321.2.2.2.1 bt321.2.2.2.2.1 bt321.2.2.2.2.2 x9).bind fun bt327 => (if bt327.1 = true then (longlinelaw11_PeerWindow.l0 k x0 x1 (wrap64 (x6 + 1)) bt327.2.1 bt327.2.2.1 bt327.2.2.2.1 bt327.2.2.2.2.1 bt327.2.2.2.2.2) else (some false))) else (some false))) else ((peer_Peer_Heard.f k x255000 x255001 x255002 x255003 x255004 x9).bind fun bt333 => (if bt333.1 = true then (longlinelaw11_PeerWindow.l0 k x0 x1 (wrap64 (x6 + 1)) bt333.2.1 bt333.2.2.1 bt333.2.2.2.1 bt333.2.2.2.2.1 bt333.2.2.2.2.2) else (some false)))) else ((peer_Peer_Heard.f k x255000 x255001 x255002 x255003 x255004 x9).bind fun bt339 => (if bt339.1 = true then (longlinelaw11_PeerWindow.l0 k x0 x1 (wrap64 (x6 + 1)) bt339.2.1 bt339.2.2.1 bt339.2.2.2.1 bt339.2.2.2.2.1 bt339.2.2.2.2.2) else (some false)))) else (longlinelaw11_PeerWindow.l0 k x0 x1 (wrap64 (x6 + 1)) x255000 x255001 x255002 x255003 x255004)))
end
def longlinelaw11_PeerWindow.f (k : Nat) (l0 : List (S32)) (a1 : Int) : Option (Bool) := (peer_New.f).bind fun bt249 => (longlinelaw11_PeerWindow.l0 k l0 a1 0 bt249.1 bt249.2.1 bt249.2.2.1 bt249.2.2.2.1 bt249.2.2.2.2)
theorem longlinelaw11_PeerWindow.mono_l : ∀ k, (∀ y0 y1 y2 y3 y4 y5 y6 y7, LeO (longlinelaw11_PeerWindow.l0 k y0 y1 y2 y3 y4 y5 y6 y7) (longlinelaw11_PeerWindow.l0 (k + 1) y0 y1 y2 y3 y4 y5 y6 y7)) ∧ (∀ y0 y1 y2 y3 y4 y5 y6 y7 y8, LeO (longlinelaw11_PeerWindow.j1 k y0 y1 y2 y3 y4 y5 y6 y7 y8) (longlinelaw11_PeerWindow.j1 (k + 1) y0 y1 y2 y3 y4 y5 y6 y7 y8)) ∧ (∀ y0 y1 y2 y3 y4 y5 y6 y7 y8 y9, LeO (longlinelaw11_PeerWindow.j2 k y0 y1 y2 y3 y4 y5 y6 y7 y8 y9) (longlinelaw11_PeerWindow.j2 (k + 1) y0 y1 y2 y3 y4 y5 y6 y7 y8 y9))
  | 0 => ⟨fun _ _ _ _ _ _ _ _ r h => by simp [longlinelaw11_PeerWindow.l0] at h, fun _ _ _ _ _ _ _ _ _ r h => by simp [longlinelaw11_PeerWindow.j1] at h, fun _ _ _ _ _ _ _ _ _ _ r h => by simp [longlinelaw11_PeerWindow.j2] at h⟩
  | k + 1 => by
    obtain ⟨ih0, ih1, ih2⟩ := longlinelaw11_PeerWindow.mono_l k
    refine ⟨?_, ?_, ?_⟩
    · intro y0 y1 y2 y3 y4 y5 y6 y7
      unfold longlinelaw11_PeerWindow.l0
      repeat' first
      | (with_reducible exact ih0 _ _ _ _ _ _ _ _)
      | (with_reducible exact ih1 _ _ _ _ _ _ _ _ _)
      | (with_reducible exact ih2 _ _ _ _ _ _ _ _ _ _)
      | (with_reducible exact longlinelaw11_alive.mono _)
      | (with_reducible exact peer_Peer_Hear.mono _ _ _ _ _ _ _ _)
      | (with_reducible exact peer_Peer_Heard.mono _ _ _ _ _ _ _)
      | (with_reducible exact LeO.refl _)
      | (with_reducible exact LeO.none _)
      | (with_reducible refine LeO.ite ?_ ?_)
      | (with_reducible refine LeO.bind ?_ (fun _ => ?_))
      | exact ih0 _ _ _ _ _ _ _ _
      | exact ih1 _ _ _ _ _ _ _ _ _
      | exact ih2 _ _ _ _ _ _ _ _ _ _
      | exact longlinelaw11_alive.mono _
      | exact peer_Peer_Hear.mono _ _ _ _ _ _ _ _
      | exact peer_Peer_Heard.mono _ _ _ _ _ _ _
      | exact LeO.none _
      | refine LeO.ite ?_ ?_
      | refine LeO.bind ?_ (fun _ => ?_)
    · intro y0 y1 y2 y3 y4 y5 y6 y7 y8
      unfold longlinelaw11_PeerWindow.j1
      repeat' first
      | (with_reducible exact ih0 _ _ _ _ _ _ _ _)
      | (with_reducible exact ih1 _ _ _ _ _ _ _ _ _)
      | (with_reducible exact ih2 _ _ _ _ _ _ _ _ _ _)
      | (with_reducible exact longlinelaw11_alive.mono _)
      | (with_reducible exact peer_Peer_Hear.mono _ _ _ _ _ _ _ _)
      | (with_reducible exact peer_Peer_Heard.mono _ _ _ _ _ _ _)
      | (with_reducible exact LeO.refl _)
      | (with_reducible exact LeO.none _)
      | (with_reducible refine LeO.ite ?_ ?_)
      | (with_reducible refine LeO.bind ?_ (fun _ => ?_))
      | exact ih0 _ _ _ _ _ _ _ _
      | exact ih1 _ _ _ _ _ _ _ _ _
      | exact ih2 _ _ _ _ _ _ _ _ _ _
      | exact longlinelaw11_alive.mono _
      | exact peer_Peer_Hear.mono _ _ _ _ _ _ _ _
      | exact peer_Peer_Heard.mono _ _ _ _ _ _ _
      | exact LeO.none _
      | refine LeO.ite ?_ ?_
      | refine LeO.bind ?_ (fun _ => ?_)
    · intro y0 y1 y2 y3 y4 y5 y6 y7 y8 y9
      unfold longlinelaw11_PeerWindow.j2
      repeat' first
      | (with_reducible exact ih0 _ _ _ _ _ _ _ _)
      | (with_reducible exact ih1 _ _ _ _ _ _ _ _ _)
      | (with_reducible exact ih2 _ _ _ _ _ _ _ _ _ _)
      | (with_reducible exact longlinelaw11_alive.mono _)
      | (with_reducible exact peer_Peer_Hear.mono _ _ _ _ _ _ _ _)
      | (with_reducible exact peer_Peer_Heard.mono _ _ _ _ _ _ _)
      | (with_reducible exact LeO.refl _)
      | (with_reducible exact LeO.none _)
      | (with_reducible refine LeO.ite ?_ ?_)
      | (with_reducible refine LeO.bind ?_ (fun _ => ?_))
      | exact ih0 _ _ _ _ _ _ _ _
      | exact ih1 _ _ _ _ _ _ _ _ _
      | exact ih2 _ _ _ _ _ _ _ _ _ _
      | exact longlinelaw11_alive.mono _
      | exact peer_Peer_Hear.mono _ _ _ _ _ _ _ _
      | exact peer_Peer_Heard.mono _ _ _ _ _ _ _
      | exact LeO.none _
      | refine LeO.ite ?_ ?_
      | refine LeO.bind ?_ (fun _ => ?_)
theorem longlinelaw11_PeerWindow.mono : ∀ a0 a1 k, LeO (longlinelaw11_PeerWindow.f k a0 a1) (longlinelaw11_PeerWindow.f (k + 1) a0 a1) := by
  intro a0 a1 k
  obtain ⟨ih0, ih1, ih2⟩ := longlinelaw11_PeerWindow.mono_l k
  unfold longlinelaw11_PeerWindow.f
  repeat' first
      | (with_reducible exact ih0 _ _ _ _ _ _ _ _)
      | (with_reducible exact ih1 _ _ _ _ _ _ _ _ _)
      | (with_reducible exact ih2 _ _ _ _ _ _ _ _ _ _)
      | (with_reducible exact longlinelaw11_alive.mono _)
      | (with_reducible exact peer_Peer_Hear.mono _ _ _ _ _ _ _ _)
      | (with_reducible exact peer_Peer_Heard.mono _ _ _ _ _ _ _)
      | (with_reducible exact LeO.refl _)
      | (with_reducible exact LeO.none _)
      | (with_reducible refine LeO.ite ?_ ?_)
      | (with_reducible refine LeO.bind ?_ (fun _ => ?_))
      | exact ih0 _ _ _ _ _ _ _ _
      | exact ih1 _ _ _ _ _ _ _ _ _
      | exact ih2 _ _ _ _ _ _ _ _ _ _
      | exact longlinelaw11_alive.mono _
      | exact peer_Peer_Hear.mono _ _ _ _ _ _ _ _
      | exact peer_Peer_Heard.mono _ _ _ _ _ _ _
      | exact LeO.none _
      | refine LeO.ite ?_ ?_
      | refine LeO.bind ?_ (fun _ => ?_)
def longlinelaw11_PeerWindow.T5 : Bool × List (List Nat × List Nat) := (true, [([], []), ([], []), ([], []), ([1, 2], [1, 2]), ([3], [3]), ([4], [4]), ([], []), ([], []), ([6, 7], [6, 7]), ([8], [8]), ([9], [9]), ([0, 5, 10], [0, 5, 10]), ([11], [11]), ([12], [12]), ([12], [12]), ([13, 11, 0, 1, 2, 3, 4, 5, 6, 7, 8, 9, 10, 11, 12, 13], [13]), ([14, 15, 0, 1, 2, 3, 4, 5, 6, 7, 8, 9, 10, 11, 12, 13, 14, 15], [14])])
def longlinelaw11_PeerWindow.B5 : List Nat := [0, 0, 0, 6, 14, 30, 0, 0, 192, 448, 960, 2047, 4095, 8191, 8191, 16383, 65535]
theorem longlinelaw11_PeerWindow.tab5 : rtab .any (opsOf Try.f5 5) = longlinelaw11_PeerWindow.T5 := by kernel_rfl
theorem longlinelaw11_PeerWindow.bits5 : waitsOk longlinelaw11_PeerWindow.T5.2 longlinelaw11_PeerWindow.B5 = true := by kernel_rfl
set_option maxHeartbeats 8000000 in
set_option maxRecDepth 100000 in
theorem longlinelaw11_PeerWindow.calls (k : Nat) (A0 : Option Addr) (c0 : Nat) (l0 : List (S32)) (a1 : Int) (r : Bool) (w : World) (hr0 : Kd.C k32 w A0 l0.length l0) (hc0 : l0.length ≤ c0) (h : longlinelaw11_PeerWindow.f k l0 a1 = some r) :
    Calls Try.prog 5 #[.slice A0 l0.length c0, .int .u64 a1] w fun e w' => e = .returned (.bool r) ∧ Below w.heap.size w w' := by
  have HR0 := Aside0.mk hr0
  have HC0 := Aside0.mk hc0
  clear hr0 hc0
  have HB := Aside0.mk (Below.refl w.heap.size w)
  have H : ((peer_New.f).bind fun bt249 => (longlinelaw11_PeerWindow.l0 k l0 a1 0 bt249.1 bt249.2.1 bt249.2.2.1 bt249.2.2.2.1 bt249.2.2.2.2)) = some r := h
  clear h
  replace H := Option.bind_eq_some_iff.mp H
  obtain ⟨⟨t249, t250, t251, t252, t253⟩, A30, H⟩ := H
  replace H : (longlinelaw11_PeerWindow.l0 k l0 a1 0 t249 t250 t251 t252 t253) = some r := H
  have A3 := Aside0.mk A30
  clear A30
  have H' := Aside0.mk H
  clear H
  go_enter Try.func5, Try.ntmps5
  go_wp2_with (first | ((with_reducible refine gate_callee (f := 10) rfl ?_); refine goesL_ (some 10) rfl rfl Try.func10 (by kernel_rfl) rfl #[] rfl (by (try simp only [List.map_toArray, List.map_cons, List.map_nil]); first | done | rfl | (simp only [List.length_drop, List.length_take]; rfl)) ?_; (with_reducible refine (peer_New.calls  t249 t250 t251 t252 t253 w _ ?side1 A3.out).mono ?_); (case side1 => repeat (first | (with_reducible first | exact HB.out | apply below_alloc | apply pw_below_drewN | apply below_drew1) | exact HB.out)); rintro e w4 ⟨g254, rfl, hi, hb, hb2⟩; refine ⟨_, rfl, ?_⟩; have n0_ := Aside0.mk (hb); have n1_ := Aside0.mk (hi); clear HB; have HB := n0_; have HI254 := n1_; clear n0_ n1_; (try clear hb); (try clear hb2); (try clear hk); (try clear hi)))
  go_loopg [6] k (fun kq v6 w' => ∃ (x6_1 : Int) (x255000_1 : Bool) (x255001_1 : Int) (x255002_1 : Int) (x255003_1 : Int) (x255004_1 : Int), v6 = .int .i64 x6_1 ∧ Aside0 (longlinelaw11_PeerWindow.l0 kq l0 a1 x6_1 x255000_1 x255001_1 x255002_1 x255003_1 x255004_1 = some r) ∧ Aside0 (kq ≤ k) ∧ Aside0 (IsS67 w w' g254 x255000_1 x255001_1 x255002_1 x255003_1 x255004_1) ∧ Aside0 (Below w.heap.size w w'))
  case atStart => exact ⟨(0), (t249), (t250), (t251), (t252), (t253), (by first | rfl | (simp; done) | (simp [*]; done)), H', ⟨Nat.le_refl _⟩, ⟨by repeat (first | (with_reducible first | exact HI254.out | apply IsS67.alloc | apply IsS67.drewN | apply IsS67.drew | apply IsS67.set_0 | apply IsS67.set_1 | apply IsS67.set_2 | apply IsS67.set_3 | apply IsS67.set_4) | exact HI254.out)⟩, ⟨by repeat (first | (with_reducible first | exact HB.out | apply below_alloc | apply pw_below_drewN | apply below_drew1 | refine below_set ?_ (IsS67.ge HI254.out)) | exact HB.out)⟩⟩
  case round =>
    clear H'
    try clear c1
    try clear p2
    obtain ⟨x6_1, x255000_1, x255001_1, x255002_1, x255003_1, x255004_1, rfl, HA, HK1, HI254, HB⟩ := hrel
    cases gk with
    | zero => exact absurd HA.out (by simp [longlinelaw11_PeerWindow.l0])
    | succ k1 =>
      have H := HA.out
      clear HA
      simp only [longlinelaw11_PeerWindow.l0] at H
      have HC5 := Aside0.mk H
      clear H
      go_upto_region 3 with (fail)
      go_cut [18] (fun v18 wc => ∃ (kq : Nat) (x18_4 : Bool), v18 = .bool x18_4 ∧ Aside0 (longlinelaw11_PeerWindow.j1 kq l0 a1 x6_1 x18_4 x255000_1 x255001_1 x255002_1 x255003_1 x255004_1 = some r) ∧ Aside0 (kq ≤ k1) ∧ Aside0 (IsS67 w wc g254 x255000_1 x255001_1 x255002_1 x255003_1 x255004_1) ∧ Aside0 (Below w.heap.size w wc))
      case first =>
        have H := HC5.out
        clear HC5
        by_cases c6 : x6_1 < (l0.length : Int)
        · rw [if_pos c6] at H
          have c6b0 : decide (x6_1 < (l0.length : Int)) = true := decide_eq_true c6
          clear c6
          (first | rw [c6b0] | (simp only [i64_w, i32_w]; rw [c6b0]) | skip)
          have H' := Aside0.mk H
          clear H
          go_wp2
          go_meet
          case rel => exact ⟨_, (decide (x6_1 < 100)), (by first | rfl | (simp; done) | (simp [*]; done)), H', ⟨by have := HK1.out; first | omega | exact Nat.le_refl _⟩, ⟨by repeat (first | (with_reducible first | exact HI254.out | apply IsS67.alloc | apply IsS67.drewN | apply IsS67.drew | apply IsS67.set_0 | apply IsS67.set_1 | apply IsS67.set_2 | apply IsS67.set_3 | apply IsS67.set_4) | exact HI254.out)⟩, ⟨by repeat (first | (with_reducible first | exact HB.out | apply below_alloc | apply pw_below_drewN | apply below_drew1 | refine below_set ?_ (IsS67.ge HI254.out)) | exact HB.out)⟩⟩
        · rw [if_neg c6] at H
          have c6b0 : decide (x6_1 < (l0.length : Int)) = false := decide_eq_false c6
          clear c6
          (first | rw [c6b0] | (simp only [i64_w, i32_w]; rw [c6b0]) | skip)
          have H' := Aside0.mk H
          clear H
          go_wp2
          go_meet
          case rel => exact ⟨_, (false), (by first | rfl | (simp; done) | (simp [*]; done)), H', ⟨by have := HK1.out; first | omega | exact Nat.le_refl _⟩, ⟨by repeat (first | (with_reducible first | exact HI254.out | apply IsS67.alloc | apply IsS67.drewN | apply IsS67.drew | apply IsS67.set_0 | apply IsS67.set_1 | apply IsS67.set_2 | apply IsS67.set_3 | apply IsS67.set_4) | exact HI254.out)⟩, ⟨by repeat (first | (with_reducible first | exact HB.out | apply below_alloc | apply pw_below_drewN | apply below_drew1 | refine below_set ?_ (IsS67.ge HI254.out)) | exact HB.out)⟩⟩
      case rest =>
        clear HC5
        try clear c1
        try clear p2
        try clear c5
        try clear c6
        try clear c6b0
        try clear p2
        obtain ⟨kq, x18_4, rfl, HA, HJ4, HI254, HB⟩ := hcut
        cases kq with
        | zero => exact absurd HA.out (by simp [longlinelaw11_PeerWindow.j1])
        | succ kj4 =>
          have H := HA.out
          clear HA
          simp only [longlinelaw11_PeerWindow.j1] at H
          by_cases c7 : x18_4 = true
          · subst c7
            have H1 : (if 0 ≤ x6_1 then (if x6_1 < (l0.length : Int) then ((peer_Peer_Hear.f kj4 x255000_1 x255001_1 x255002_1 x255003_1 x255004_1 ((rd_T32 l0 x6_1).f0) ((rd_T32 l0 x6_1).f1)).bind fun bt258 => ((peer_Peer_Newest.f bt258.2.2.1 bt258.2.2.2.1 bt258.2.2.2.2.1 bt258.2.2.2.2.2.1 bt258.2.2.2.2.2.2).bind fun bt265 => (if bt258.2.1 = 0 then ((peer_Peer_Heard.f kj4 bt265.2.1 bt265.2.2.1 bt265.2.2.2.1 bt265.2.2.2.2.1 bt265.2.2.2.2.2 ((rd_T32 l0 x6_1).f0)).bind fun bt272 => (if bt272.1 = true then (if bt258.2.1 = 1 then (if ((rd_T32 l0 x6_1).f0) ≥ 1 then (longlinelaw11_PeerWindow.j2 kj4 l0 a1 x6_1 bt265.1 (decide (((rd_T32 l0 x6_1).f0) ≤ 9223372036854775807)) bt272.2.1 bt272.2.2.1 bt272.2.2.2.1 bt272.2.2.2.2.1 bt272.2.2.2.2.2) else (longlinelaw11_PeerWindow.j2 kj4 l0 a1 x6_1 bt265.1 false bt272.2.1 bt272.2.2.1 bt272.2.2.2.1 bt272.2.2.2.2.1 bt272.2.2.2.2.2)) else (longlinelaw11_PeerWindow.j2 kj4 l0 a1 x6_1 bt265.1 false bt272.2.1 bt272.2.2.1 bt272.2.2.2.1 bt272.2.2.2.2.1 bt272.2.2.2.2.2)) else (longlinelaw11_PeerWindow.j2 kj4 l0 a1 x6_1 bt265.1 true bt272.2.1 bt272.2.2.1 bt272.2.2.2.1 bt272.2.2.2.2.1 bt272.2.2.2.2.2))) else (if bt258.2.1 = 23 then ((peer_Peer_Heard.f kj4 bt265.2.1 bt265.2.2.1 bt265.2.2.2.1 bt265.2.2.2.2.1 bt265.2.2.2.2.2 ((rd_T32 l0 x6_1).f0)).bind fun bt281 => (if bt281.1 = true then (if bt258.2.1 = 1 then (if ((rd_T32 l0 x6_1).f0) ≥ 1 then (longlinelaw11_PeerWindow.j2 kj4 l0 a1 x6_1 bt265.1 (decide (((rd_T32 l0 x6_1).f0) ≤ 9223372036854775807)) bt281.2.1 bt281.2.2.1 bt281.2.2.2.1 bt281.2.2.2.2.1 bt281.2.2.2.2.2) else (longlinelaw11_PeerWindow.j2 kj4 l0 a1 x6_1 bt265.1 false bt281.2.1 bt281.2.2.1 bt281.2.2.2.1 bt281.2.2.2.2.1 bt281.2.2.2.2.2)) else (longlinelaw11_PeerWindow.j2 kj4 l0 a1 x6_1 bt265.1 false bt281.2.1 bt281.2.2.1 bt281.2.2.2.1 bt281.2.2.2.2.1 bt281.2.2.2.2.2)) else (longlinelaw11_PeerWindow.j2 kj4 l0 a1 x6_1 bt265.1 true bt281.2.1 bt281.2.2.1 bt281.2.2.2.1 bt281.2.2.2.2.1 bt281.2.2.2.2.2))) else (if bt258.2.1 = 1 then (if ((rd_T32 l0 x6_1).f0) ≥ 1 then (longlinelaw11_PeerWindow.j2 kj4 l0 a1 x6_1 bt265.1 (decide (((rd_T32 l0 x6_1).f0) ≤ 9223372036854775807)) bt265.2.1 bt265.2.2.1 bt265.2.2.2.1 bt265.2.2.2.2.1 bt265.2.2.2.2.2) else (longlinelaw11_PeerWindow.j2 kj4 l0 a1 x6_1 bt265.1 false bt265.2.1 bt265.2.2.1 bt265.2.2.2.1 bt265.2.2.2.2.1 bt265.2.2.2.2.2)) else (longlinelaw11_PeerWindow.j2 kj4 l0 a1 x6_1 bt265.1 false bt265.2.1 bt265.2.2.1 bt265.2.2.2.1 bt265.2.2.2.2.1 bt265.2.2.2.2.2)))))) else (none)) else (none)) = some r := by rw [if_pos rfl] at H; exact H
            clear H
            have H := H1
            clear H1
            by_cases c8 : 0 ≤ x6_1
            · rw [if_pos c8] at H
              have c8b0 : decide (0 ≤ x6_1) = true := decide_eq_true c8
              clear c8
              by_cases c9 : x6_1 < (l0.length : Int)
              · rw [if_pos c9] at H
                have c9b0 : decide (x6_1 < (l0.length : Int)) = true := decide_eq_true c9
                clear c9
                replace H := Option.bind_eq_some_iff.mp H
                obtain ⟨⟨t258, t259, t260, t261, t262, t263, t264⟩, A100, H⟩ := H
                replace H : ((peer_Peer_Newest.f t260 t261 t262 t263 t264).bind fun bt265 => (if t259 = 0 then ((peer_Peer_Heard.f kj4 bt265.2.1 bt265.2.2.1 bt265.2.2.2.1 bt265.2.2.2.2.1 bt265.2.2.2.2.2 ((rd_T32 l0 x6_1).f0)).bind fun bt272 => (if bt272.1 = true then (if t259 = 1 then (if ((rd_T32 l0 x6_1).f0) ≥ 1 then (longlinelaw11_PeerWindow.j2 kj4 l0 a1 x6_1 bt265.1 (decide (((rd_T32 l0 x6_1).f0) ≤ 9223372036854775807)) bt272.2.1 bt272.2.2.1 bt272.2.2.2.1 bt272.2.2.2.2.1 bt272.2.2.2.2.2) else (longlinelaw11_PeerWindow.j2 kj4 l0 a1 x6_1 bt265.1 false bt272.2.1 bt272.2.2.1 bt272.2.2.2.1 bt272.2.2.2.2.1 bt272.2.2.2.2.2)) else (longlinelaw11_PeerWindow.j2 kj4 l0 a1 x6_1 bt265.1 false bt272.2.1 bt272.2.2.1 bt272.2.2.2.1 bt272.2.2.2.2.1 bt272.2.2.2.2.2)) else (longlinelaw11_PeerWindow.j2 kj4 l0 a1 x6_1 bt265.1 true bt272.2.1 bt272.2.2.1 bt272.2.2.2.1 bt272.2.2.2.2.1 bt272.2.2.2.2.2))) else (if t259 = 23 then ((peer_Peer_Heard.f kj4 bt265.2.1 bt265.2.2.1 bt265.2.2.2.1 bt265.2.2.2.2.1 bt265.2.2.2.2.2 ((rd_T32 l0 x6_1).f0)).bind fun bt281 => (if bt281.1 = true then (if t259 = 1 then (if ((rd_T32 l0 x6_1).f0) ≥ 1 then (longlinelaw11_PeerWindow.j2 kj4 l0 a1 x6_1 bt265.1 (decide (((rd_T32 l0 x6_1).f0) ≤ 9223372036854775807)) bt281.2.1 bt281.2.2.1 bt281.2.2.2.1 bt281.2.2.2.2.1 bt281.2.2.2.2.2) else (longlinelaw11_PeerWindow.j2 kj4 l0 a1 x6_1 bt265.1 false bt281.2.1 bt281.2.2.1 bt281.2.2.2.1 bt281.2.2.2.2.1 bt281.2.2.2.2.2)) else (longlinelaw11_PeerWindow.j2 kj4 l0 a1 x6_1 bt265.1 false bt281.2.1 bt281.2.2.1 bt281.2.2.2.1 bt281.2.2.2.2.1 bt281.2.2.2.2.2)) else (longlinelaw11_PeerWindow.j2 kj4 l0 a1 x6_1 bt265.1 true bt281.2.1 bt281.2.2.1 bt281.2.2.2.1 bt281.2.2.2.2.1 bt281.2.2.2.2.2))) else (if t259 = 1 then (if ((rd_T32 l0 x6_1).f0) ≥ 1 then (longlinelaw11_PeerWindow.j2 kj4 l0 a1 x6_1 bt265.1 (decide (((rd_T32 l0 x6_1).f0) ≤ 9223372036854775807)) bt265.2.1 bt265.2.2.1 bt265.2.2.2.1 bt265.2.2.2.2.1 bt265.2.2.2.2.2) else (longlinelaw11_PeerWindow.j2 kj4 l0 a1 x6_1 bt265.1 false bt265.2.1 bt265.2.2.1 bt265.2.2.2.1 bt265.2.2.2.2.1 bt265.2.2.2.2.2)) else (longlinelaw11_PeerWindow.j2 kj4 l0 a1 x6_1 bt265.1 false bt265.2.1 bt265.2.2.1 bt265.2.2.2.1 bt265.2.2.2.2.1 bt265.2.2.2.2.2))))) = some r := H
                have A10 := Aside0.mk A100
                clear A100
                replace H := Option.bind_eq_some_iff.mp H
                obtain ⟨⟨t265, t266, t267, t268, t269, t270⟩, A110, H⟩ := H
                replace H : (if t259 = 0 then ((peer_Peer_Heard.f kj4 t266 t267 t268 t269 t270 ((rd_T32 l0 x6_1).f0)).bind fun bt272 => (if bt272.1 = true then (if t259 = 1 then (if ((rd_T32 l0 x6_1).f0) ≥ 1 then (longlinelaw11_PeerWindow.j2 kj4 l0 a1 x6_1 t265 (decide (((rd_T32 l0 x6_1).f0) ≤ 9223372036854775807)) bt272.2.1 bt272.2.2.1 bt272.2.2.2.1 bt272.2.2.2.2.1 bt272.2.2.2.2.2) else (longlinelaw11_PeerWindow.j2 kj4 l0 a1 x6_1 t265 false bt272.2.1 bt272.2.2.1 bt272.2.2.2.1 bt272.2.2.2.2.1 bt272.2.2.2.2.2)) else (longlinelaw11_PeerWindow.j2 kj4 l0 a1 x6_1 t265 false bt272.2.1 bt272.2.2.1 bt272.2.2.2.1 bt272.2.2.2.2.1 bt272.2.2.2.2.2)) else (longlinelaw11_PeerWindow.j2 kj4 l0 a1 x6_1 t265 true bt272.2.1 bt272.2.2.1 bt272.2.2.2.1 bt272.2.2.2.2.1 bt272.2.2.2.2.2))) else (if t259 = 23 then ((peer_Peer_Heard.f kj4 t266 t267 t268 t269 t270 ((rd_T32 l0 x6_1).f0)).bind fun bt281 => (if bt281.1 = true then (if t259 = 1 then (if ((rd_T32 l0 x6_1).f0) ≥ 1 then (longlinelaw11_PeerWindow.j2 kj4 l0 a1 x6_1 t265 (decide (((rd_T32 l0 x6_1).f0) ≤ 9223372036854775807)) bt281.2.1 bt281.2.2.1 bt281.2.2.2.1 bt281.2.2.2.2.1 bt281.2.2.2.2.2) else (longlinelaw11_PeerWindow.j2 kj4 l0 a1 x6_1 t265 false bt281.2.1 bt281.2.2.1 bt281.2.2.2.1 bt281.2.2.2.2.1 bt281.2.2.2.2.2)) else (longlinelaw11_PeerWindow.j2 kj4 l0 a1 x6_1 t265 false bt281.2.1 bt281.2.2.1 bt281.2.2.2.1 bt281.2.2.2.2.1 bt281.2.2.2.2.2)) else (longlinelaw11_PeerWindow.j2 kj4 l0 a1 x6_1 t265 true bt281.2.1 bt281.2.2.1 bt281.2.2.2.1 bt281.2.2.2.2.1 bt281.2.2.2.2.2))) else (if t259 = 1 then (if ((rd_T32 l0 x6_1).f0) ≥ 1 then (longlinelaw11_PeerWindow.j2 kj4 l0 a1 x6_1 t265 (decide (((rd_T32 l0 x6_1).f0) ≤ 9223372036854775807)) t266 t267 t268 t269 t270) else (longlinelaw11_PeerWindow.j2 kj4 l0 a1 x6_1 t265 false t266 t267 t268 t269 t270)) else (longlinelaw11_PeerWindow.j2 kj4 l0 a1 x6_1 t265 false t266 t267 t268 t269 t270)))) = some r := H
                have A11 := Aside0.mk A110
                clear A110
                have HC12 := Aside0.mk H
                clear H
                try go_wp2
                have n0_ := Aside0.mk (IsS67.drew HI254.out)
                have n1_ := Aside0.mk (below_drew1 HB.out)
                clear HI254
                clear HB
                have HI254 := n0_
                have HB := n1_
                clear n0_ n1_
                have p256 : 0 ≤ (x6_1 : Int) := of_decide_eq_true (by first | (with_reducible assumption) | assumption)
                have q256 : x6_1 < (l0.length : Int) := of_decide_eq_true (by first | (with_reducible assumption) | assumption)
                obtain ⟨ad256, e256, hx256_0, hx256_1⟩ := at_T32 HR0.out x6_1 p256 q256
                have hw256_1 := hx256_1
                have hw256_0 := hx256_0
                cases e256
                replace hx256_0 := (HB.out.cell (World.block_lt_of_cell? w _ hx256_0)).trans hx256_0
                replace hx256_1 := (HB.out.cell (World.block_lt_of_cell? w _ hx256_1)).trans hx256_1
                replace p256 := eq_true p256
                replace q256 := eq_true q256
                have p257 : 0 ≤ (x6_1 : Int) := of_decide_eq_true (by first | (with_reducible assumption) | assumption)
                have q257 : x6_1 < (l0.length : Int) := of_decide_eq_true (by first | (with_reducible assumption) | assumption)
                obtain ⟨ad257, e257, hx257_0, hx257_1⟩ := at_T32 HR0.out x6_1 p257 q257
                have hw257_1 := hx257_1
                have hw257_0 := hx257_0
                obtain rfl : ad256 = ad257 := (by injection e257)
                replace hx257_0 := (HB.out.cell (World.block_lt_of_cell? w _ hx257_0)).trans hx257_0
                replace hx257_1 := (HB.out.cell (World.block_lt_of_cell? w _ hx257_1)).trans hx257_1
                replace p257 := eq_true p257
                replace q257 := eq_true q257
                refine start_ (n := 17) (S := fun w' => w'.cell? (ad256.add ((x6_1).toNat * 2)) = some (.int .u64 ((rd_T32 l0 x6_1).f0)) ∧ w'.cell? ⟨(ad256.add ((x6_1).toNat * 2)).block, (ad256.add ((x6_1).toNat * 2)).off + 1, none⟩ = some (.int .u32 ((rd_T32 l0 x6_1).f1)) ∧ w'.cell? (ad256.add ((x6_1).toNat * 2)) = some (.int .u64 ((rd_T32 l0 x6_1).f0)) ∧ w'.cell? ⟨(ad256.add ((x6_1).toNat * 2)).block, (ad256.add ((x6_1).toNat * 2)).off + 1, none⟩ = some (.int .u32 ((rd_T32 l0 x6_1).f1))) (ds := []) #[false, false, false, false, false, false, false, false, false, false, false, false, false, false, false, false, false] (by kernel_rfl) rfl rfl ⟨((HB.out.cell (World.block_lt_of_cell? w _ hw256_0)).trans hw256_0), ((HB.out.cell (World.block_lt_of_cell? w _ hw256_1)).trans hw256_1), ((HB.out.cell (World.block_lt_of_cell? w _ hw257_0)).trans hw257_0), ((HB.out.cell (World.block_lt_of_cell? w _ hw257_1)).trans hw257_1)⟩ (fun hHeld => ?_); refine with_tabW longlinelaw11_PeerWindow.tab5 longlinelaw11_PeerWindow.bits5 (fun HT_ HW_ => ?_)
                generalize wc.drew = w13 at HI254 HB hx256_0 hx256_1 hx257_0 hx257_1 hHeld ⊢
                refine pure_ (i := 0) (N := some 22) (v := ?_) (a' := ?_) #[true, false, false, false, false, false, false, false, false, false, false, false, false, false, false, false, false] rfl rfl (any_of HT_.out (by kernel_rfl)) (fun _ _ _ h => h) (Or.inl ⟨by rfl, ?_⟩) ?_ ?_
                rotate_left
                · intro w'
                  go_simp
                  with_reducible rfl
                rotate_left
                · simp only [Act.put, List.setIfInBounds_toArray, List.set_cons_zero, List.set_cons_succ, i64_w, i32_w]
                  rfl
                refine pure_ (i := 1) (N := some 23) (v := ?_) (a' := ?_) #[true, true, false, false, false, false, false, false, false, false, false, false, false, false, false, false, false] rfl rfl (any_of HT_.out (by kernel_rfl)) (fun _ _ _ h => h) (Or.inl ⟨by rfl, ?_⟩) ?_ ?_
                rotate_left
                · intro w'
                  go_simp
                  with_reducible rfl
                rotate_left
                · simp only [Act.put, List.setIfInBounds_toArray, List.set_cons_zero, List.set_cons_succ, i64_w, i32_w]
                  rfl
                refine pure_ (i := 2) (N := some 24) (v := ?_) (a' := ?_) #[true, true, true, false, false, false, false, false, false, false, false, false, false, false, false, false, false] rfl rfl (any_of HT_.out (by kernel_rfl)) (fun _ _ _ h => h) (Or.inl ⟨by rfl, ?_⟩) ?_ ?_
                rotate_left
                · intro w'
                  go_simp
                  with_reducible rfl
                rotate_left
                · simp only [Act.put, List.setIfInBounds_toArray, List.set_cons_zero, List.set_cons_succ, i64_w, i32_w]
                  rfl
                refine pure_ (i := 3) (N := some 25) (v := ?_) (a' := ?_) #[true, true, true, true, false, false, false, false, false, false, false, false, false, false, false, false, false] rfl rfl (any_of HT_.out (by kernel_rfl)) (fun _ _ _ h => h) (Or.inl ⟨by rfl, ?_⟩) ?_ ?_
                rotate_left
                · intro w'
                  go_simp
                  with_reducible rfl
                rotate_left
                · simp only [Act.put, List.setIfInBounds_toArray, List.set_cons_zero, List.set_cons_succ, i64_w, i32_w]
                  rfl
                refine pure_ (i := 4) (N := some 26) (v := ?_) (a' := ?_) #[true, true, true, true, true, false, false, false, false, false, false, false, false, false, false, false, false] rfl rfl (any_of HT_.out (by kernel_rfl)) (fun _ _ _ h => h) (Or.inl ⟨by rfl, ?_⟩) ?_ ?_
                rotate_left
                · intro w'
                  go_simp
                  with_reducible rfl
                rotate_left
                · simp only [Act.put, List.setIfInBounds_toArray, List.set_cons_zero, List.set_cons_succ, i64_w, i32_w]
                  rfl
                refine pure_ (i := 6) (N := some 28) (v := ?_) (a' := ?_) #[true, true, true, true, true, false, true, false, false, false, false, false, false, false, false, false, false] rfl rfl (any_of HT_.out (by kernel_rfl)) (fun _ _ _ h => h) (Or.inl ⟨by rfl, ?_⟩) ?_ ?_
                rotate_left
                · intro w'
                  go_simp
                  with_reducible rfl
                rotate_left
                · simp only [Act.put, List.setIfInBounds_toArray, List.set_cons_zero, List.set_cons_succ, i64_w, i32_w]
                  rfl
                refine pure_ (i := 7) (N := some 29) (v := ?_) (a' := ?_) #[true, true, true, true, true, false, true, true, false, false, false, false, false, false, false, false, false] rfl rfl (any_of HT_.out (by kernel_rfl)) (fun _ _ _ h => h) (Or.inl ⟨by rfl, ?_⟩) ?_ ?_
                rotate_left
                · intro w'
                  go_simp
                  with_reducible rfl
                rotate_left
                · simp only [Act.put, List.setIfInBounds_toArray, List.set_cons_zero, List.set_cons_succ, i64_w, i32_w]
                  rfl
                refine pure_ (i := 8) (N := some 30) (v := ?_) (a' := ?_) #[true, true, true, true, true, false, true, true, true, false, false, false, false, false, false, false, false] rfl rfl (any_of HT_.out (by kernel_rfl)) (fun _ _ _ h => h) (Or.inl ⟨by rfl, ?_⟩) ?_ ?_
                rotate_left
                · intro w'
                  go_simp
                  with_reducible rfl
                rotate_left
                · simp only [Act.put, List.setIfInBounds_toArray, List.set_cons_zero, List.set_cons_succ, i64_w, i32_w]
                  rfl
                refine pure_ (i := 9) (N := some 31) (v := ?_) (a' := ?_) #[true, true, true, true, true, false, true, true, true, true, false, false, false, false, false, false, false] rfl rfl (any_of HT_.out (by kernel_rfl)) (fun _ _ _ h => h) (Or.inl ⟨by rfl, ?_⟩) ?_ ?_
                rotate_left
                · intro w'
                  go_simp
                  with_reducible rfl
                rotate_left
                · simp only [Act.put, List.setIfInBounds_toArray, List.set_cons_zero, List.set_cons_succ, i64_w, i32_w]
                  rfl
                refine take_ (i := 5) (N := some 27) (v := ?_) (a' := ?_) #[true, true, true, true, true, true, true, true, true, true, false, false, false, false, false, false, false] rfl rfl (take_ofW HT_.out HW_.out (by kernel_rfl)) (fun _ _ _ h => h) (Or.inl ⟨by rfl, ?_⟩) hHeld ?_ ?_
                rotate_left
                · rintro w' ⟨s0, s1, s2, s3⟩
                  go_simp
                  with_reducible rfl
                rotate_left
                · simp only [Act.put, List.setIfInBounds_toArray, List.set_cons_zero, List.set_cons_succ, i64_w, i32_w]
                  rfl
                refine take_ (i := 10) (N := some 32) (v := ?_) (a' := ?_) #[true, true, true, true, true, true, true, true, true, true, true, false, false, false, false, false, false] rfl rfl (take_ofW HT_.out HW_.out (by kernel_rfl)) (fun _ _ _ h => h) (Or.inl ⟨by rfl, ?_⟩) hHeld ?_ ?_
                rotate_left
                · rintro w' ⟨s0, s1, s2, s3⟩
                  go_simp
                  with_reducible rfl
                rotate_left
                · simp only [Act.put, List.setIfInBounds_toArray, List.set_cons_zero, List.set_cons_succ, i64_w, i32_w]
                  rfl
                refine one_ (i := 11) (N := some 33) #[true, true, true, true, true, true, true, true, true, true, true, true, false, false, false, false, false] rfl rfl (one_of HT_.out (by kernel_rfl)) (by decide) (fun K hK => ?_)
                refine goes_ Try.func11 (by kernel_rfl) rfl #[.pointer (some ⟨g254, 0, none⟩), .int .u64 ((rd_T32 l0 x6_1).f0), .int .u32 ((rd_T32 l0 x6_1).f1)] (by rfl) rfl rfl (by (try simp only [List.map_toArray, List.map_cons, List.map_nil]); first | done | rfl | (simp only [List.length_drop, List.length_take]; rfl)) ?_
                with_reducible refine (peer_Peer_Hear.calls kj4 g254 x255000_1 x255001_1 x255002_1 x255003_1 x255004_1 ((rd_T32 l0 x6_1).f0) ((rd_T32 l0 x6_1).f1) t258 t259 t260 t261 t262 t263 t264 w _ ?side1 ?side2 A10.out).mono ?_
                (case side1 => repeat (first | (with_reducible first | exact HI254.out | apply IsS67.alloc | apply IsS67.drewN | apply IsS67.drew | apply IsS67.set_0 | apply IsS67.set_1 | apply IsS67.set_2 | apply IsS67.set_3 | apply IsS67.set_4) | exact HI254.out))
                (case side2 => repeat (first | (with_reducible first | exact HB.out | apply below_alloc | apply pw_below_drewN | apply below_drew1 | refine below_set ?_ (IsS67.ge HI254.out)) | exact HB.out))
                rintro e w14 ⟨rfl, hi, hb, hk⟩
                refine ⟨_, rfl, ?_⟩
                have n0_ := Aside0.mk (hb)
                have n1_ := Aside0.mk (hi)
                clear HB
                clear HI254
                have HB := n0_
                have HI254 := n1_
                clear n0_ n1_
                (try clear hb)
                (try clear hb2)
                (try clear hk)
                (try clear hi)
                refine hK.out _ _ ⟨((HB.out.cell (World.block_lt_of_cell? w _ hw256_0)).trans hw256_0), ((HB.out.cell (World.block_lt_of_cell? w _ hw256_1)).trans hw256_1), ((HB.out.cell (World.block_lt_of_cell? w _ hw257_0)).trans hw257_0), ((HB.out.cell (World.block_lt_of_cell? w _ hw257_1)).trans hw257_1)⟩ (fun hHeld => ?_)
                clear hK K
                refine norm_ (a' := ?_) ?_ ?_
                rotate_left
                · show Act.put _ (some 33) _ = _
                  simp only [Act.put, List.setIfInBounds_toArray, List.set_cons_zero, List.set_cons_succ, i64_w, i32_w]
                  rfl
                refine pure_ (i := 12) (N := some 21) (v := ?_) (a' := ?_) #[true, true, true, true, true, true, true, true, true, true, true, true, true, false, false, false, false] rfl rfl (any_of HT_.out (by kernel_rfl)) (fun _ _ _ h => h) (Or.inl ⟨by rfl, ?_⟩) ?_ ?_
                rotate_left
                · intro w'
                  go_simp
                  with_reducible rfl
                rotate_left
                · simp only [Act.put, List.setIfInBounds_toArray, List.set_cons_zero, List.set_cons_succ, i64_w, i32_w]
                  rfl
                refine pure_ (i := 13) (N := some 34) (v := ?_) (a' := ?_) #[true, true, true, true, true, true, true, true, true, true, true, true, true, true, false, false, false] rfl rfl (any_of HT_.out (by kernel_rfl)) (fun _ _ _ h => h) (Or.inl ⟨by rfl, ?_⟩) ?_ ?_
                rotate_left
                · intro w'
                  go_simp
                  with_reducible rfl
                rotate_left
                · simp only [Act.put, List.setIfInBounds_toArray, List.set_cons_zero, List.set_cons_succ, i64_w, i32_w]
                  rfl
                refine pure_ (i := 14) (N := some 35) (v := ?_) (a' := ?_) #[true, true, true, true, true, true, true, true, true, true, true, true, true, true, true, false, false] rfl rfl (any_of HT_.out (by kernel_rfl)) (fun _ _ _ h => h) (Or.inl ⟨by rfl, ?_⟩) ?_ ?_
                rotate_left
                · intro w'
                  go_simp
                  with_reducible rfl
                rotate_left
                · simp only [Act.put, List.setIfInBounds_toArray, List.set_cons_zero, List.set_cons_succ, i64_w, i32_w]
                  rfl
                refine pure_ (i := 15) (N := some 7) (v := ?_) (a' := ?_) #[true, true, true, true, true, true, true, true, true, true, true, true, true, true, true, true, false] rfl rfl (any_of HT_.out (by kernel_rfl)) (fun _ _ _ h => h) (Or.inl ⟨by rfl, ?_⟩) ?_ ?_
                rotate_left
                · intro w'
                  go_simp
                  with_reducible rfl
                rotate_left
                · simp only [Act.put, List.setIfInBounds_toArray, List.set_cons_zero, List.set_cons_succ, i64_w, i32_w]
                  rfl
                refine pure_ (i := 16) (N := some 8) (v := ?_) (a' := ?_) #[true, true, true, true, true, true, true, true, true, true, true, true, true, true, true, true, true] rfl rfl (any_of HT_.out (by kernel_rfl)) (fun _ _ _ h => h) (Or.inl ⟨by rfl, ?_⟩) ?_ ?_
                rotate_left
                · intro w'
                  go_simp
                  with_reducible rfl
                rotate_left
                · simp only [Act.put, List.setIfInBounds_toArray, List.set_cons_zero, List.set_cons_succ, i64_w, i32_w]
                  rfl
                refine done_ (done_of HT_.out (by kernel_rfl)) ?_
                go_upto_region 7 with (first | ((with_reducible refine gate_callee (f := 15) rfl ?_); refine goesL_ (some 37) rfl rfl Try.func15 (by kernel_rfl) rfl #[.pointer (some ⟨g254, 0, none⟩)] rfl (by (try simp only [List.map_toArray, List.map_cons, List.map_nil]); first | done | rfl | (simp only [List.length_drop, List.length_take]; rfl)) ?_; (with_reducible refine (peer_Peer_Newest.calls g254 t260 t261 t262 t263 t264 t265 t266 t267 t268 t269 t270 w _ ?side1 ?side2 A11.out).mono ?_); (case side1 => repeat (first | (with_reducible first | exact HI254.out | apply IsS67.alloc | apply IsS67.drewN | apply IsS67.drew | apply IsS67.set_0 | apply IsS67.set_1 | apply IsS67.set_2 | apply IsS67.set_3 | apply IsS67.set_4) | exact HI254.out)); (case side2 => repeat (first | (with_reducible first | exact HB.out | apply below_alloc | apply pw_below_drewN | apply below_drew1 | refine below_set ?_ (IsS67.ge HI254.out)) | exact HB.out)); rintro e w15 ⟨rfl, hi, hb, hk⟩; refine ⟨_, rfl, ?_⟩; have n0_ := Aside0.mk (hb); have n1_ := Aside0.mk (hi); clear HB; clear HI254; have HB := n0_; have HI254 := n1_; clear n0_ n1_; (try clear hb); (try clear hb2); (try clear hk); (try clear hi)))
                (try simp only [Act.put, List.setIfInBounds_toArray, List.set_cons_zero, List.set_cons_succ])
                go_cut [73] (fun v73 wc => ∃ (kq : Nat) (x73_11 : Bool) (x255000_11 : Bool) (x255001_11 : Int) (x255002_11 : Int) (x255003_11 : Int) (x255004_11 : Int), v73 = .bool x73_11 ∧ Aside0 (longlinelaw11_PeerWindow.j2 kq l0 a1 x6_1 t265 x73_11 x255000_11 x255001_11 x255002_11 x255003_11 x255004_11 = some r) ∧ Aside0 (kq ≤ kj4) ∧ Aside0 (IsS67 w wc g254 x255000_11 x255001_11 x255002_11 x255003_11 x255004_11) ∧ Aside0 (Below w.heap.size w wc))
                case first =>
                  have H := HC12.out
                  clear HC12
                  by_cases c16 : t259 = 0
                  · rw [if_pos c16] at H
                    have c16b0 : (t259 == 0) = true := beq_iff_eq.mpr c16
                    have c16b1 : (t259 != 0) = false := bne_eq_false_iff_eq.mpr c16
                    clear c16
                    (first | rw [c16b0] | (simp only [i64_w, i32_w]; rw [c16b0]) | skip)
                    replace H := Option.bind_eq_some_iff.mp H
                    obtain ⟨⟨t272, t273, t274, t275, t276, t277⟩, A170, H⟩ := H
                    replace H : (if t272 = true then (if t259 = 1 then (if ((rd_T32 l0 x6_1).f0) ≥ 1 then (longlinelaw11_PeerWindow.j2 kj4 l0 a1 x6_1 t265 (decide (((rd_T32 l0 x6_1).f0) ≤ 9223372036854775807)) t273 t274 t275 t276 t277) else (longlinelaw11_PeerWindow.j2 kj4 l0 a1 x6_1 t265 false t273 t274 t275 t276 t277)) else (longlinelaw11_PeerWindow.j2 kj4 l0 a1 x6_1 t265 false t273 t274 t275 t276 t277)) else (longlinelaw11_PeerWindow.j2 kj4 l0 a1 x6_1 t265 true t273 t274 t275 t276 t277)) = some r := H
                    have A17 := Aside0.mk A170
                    clear A170
                    by_cases c18 : t272 = true
                    · subst c18
                      have H1 : (if t259 = 1 then (if ((rd_T32 l0 x6_1).f0) ≥ 1 then (longlinelaw11_PeerWindow.j2 kj4 l0 a1 x6_1 t265 (decide (((rd_T32 l0 x6_1).f0) ≤ 9223372036854775807)) t273 t274 t275 t276 t277) else (longlinelaw11_PeerWindow.j2 kj4 l0 a1 x6_1 t265 false t273 t274 t275 t276 t277)) else (longlinelaw11_PeerWindow.j2 kj4 l0 a1 x6_1 t265 false t273 t274 t275 t276 t277)) = some r := by rw [if_pos rfl] at H; exact H
                      clear H
                      have H := H1
                      clear H1
                      by_cases c19 : t259 = 1
                      · rw [if_pos c19] at H
                        have c19b0 : (t259 == 1) = true := beq_iff_eq.mpr c19
                        have c19b1 : (t259 != 1) = false := bne_eq_false_iff_eq.mpr c19
                        clear c19
                        by_cases c20 : ((rd_T32 l0 x6_1).f0) ≥ 1
                        · rw [if_pos c20] at H
                          have c20b0 : decide (1 ≤ ((rd_T32 l0 x6_1).f0)) = true := decide_eq_true c20
                          clear c20
                          have H' := Aside0.mk H
                          clear H
                          have p271 : 0 ≤ (x6_1 : Int) := of_decide_eq_true (by first | (with_reducible assumption) | assumption)
                          have q271 : x6_1 < (l0.length : Int) := of_decide_eq_true (by first | (with_reducible assumption) | assumption)
                          obtain ⟨ad271, e271, hx271_0, hx271_1⟩ := at_T32 HR0.out x6_1 p271 q271
                          obtain rfl : ad256 = ad271 := (by injection e271)
                          replace hx271_0 := (HB.out.cell (World.block_lt_of_cell? w _ hx271_0)).trans hx271_0
                          replace hx271_1 := (HB.out.cell (World.block_lt_of_cell? w _ hx271_1)).trans hx271_1
                          replace p271 := eq_true p271
                          replace q271 := eq_true q271
                          go_wp2_with (first | (go_at_call 12; (with_reducible refine (peer_Peer_Heard.calls kj4 g254 t266 t267 t268 t269 t270 ((rd_T32 l0 x6_1).f0) true t273 t274 t275 t276 t277 w _ ?side1 ?side2 A17.out).mono ?_); (case side1 => repeat (first | (with_reducible first | exact HI254.out | apply IsS67.alloc | apply IsS67.drewN | apply IsS67.drew | apply IsS67.set_0 | apply IsS67.set_1 | apply IsS67.set_2 | apply IsS67.set_3 | apply IsS67.set_4) | exact HI254.out)); (case side2 => repeat (first | (with_reducible first | exact HB.out | apply below_alloc | apply pw_below_drewN | apply below_drew1 | refine below_set ?_ (IsS67.ge HI254.out)) | exact HB.out)); rintro e w21 ⟨rfl, hi, hb, hk⟩; have n0_ := Aside0.mk (hb); have n1_ := Aside0.mk (hi); clear HB; clear HI254; have HB := n0_; have HI254 := n1_; clear n0_ n1_; (try clear hb); (try clear hb2); (try clear hk); (try clear hi); have p278 : 0 ≤ (x6_1 : Int) := of_decide_eq_true (by first | (with_reducible assumption) | assumption); have q278 : x6_1 < (l0.length : Int) := of_decide_eq_true (by first | (with_reducible assumption) | assumption); obtain ⟨ad278, e278, hx278_0, hx278_1⟩ := at_T32 HR0.out x6_1 p278 q278; obtain rfl : ad256 = ad278 := (by injection e278); replace hx278_0 := (HB.out.cell (World.block_lt_of_cell? w _ hx278_0)).trans hx278_0; replace hx278_1 := (HB.out.cell (World.block_lt_of_cell? w _ hx278_1)).trans hx278_1; replace p278 := eq_true p278; replace q278 := eq_true q278; have p279 : 0 ≤ (x6_1 : Int) := of_decide_eq_true (by first | (with_reducible assumption) | assumption); have q279 : x6_1 < (l0.length : Int) := of_decide_eq_true (by first | (with_reducible assumption) | assumption); obtain ⟨ad279, e279, hx279_0, hx279_1⟩ := at_T32 HR0.out x6_1 p279 q279; obtain rfl : ad256 = ad279 := (by injection e279); replace hx279_0 := (HB.out.cell (World.block_lt_of_cell? w _ hx279_0)).trans hx279_0; replace hx279_1 := (HB.out.cell (World.block_lt_of_cell? w _ hx279_1)).trans hx279_1; replace p279 := eq_true p279; replace q279 := eq_true q279))
                          go_meet
                          case rel => exact ⟨_, (decide (((rd_T32 l0 x6_1).f0) ≤ 9223372036854775807)), (t273), (t274), (t275), (t276), (t277), (by first | rfl | (simp; done) | (simp [*]; done)), H', ⟨by have := HK1.out; have := HJ4.out; first | omega | exact Nat.le_refl _⟩, ⟨by repeat (first | (with_reducible first | exact HI254.out | apply IsS67.alloc | apply IsS67.drewN | apply IsS67.drew | apply IsS67.set_0 | apply IsS67.set_1 | apply IsS67.set_2 | apply IsS67.set_3 | apply IsS67.set_4) | exact HI254.out)⟩, ⟨by repeat (first | (with_reducible first | exact HB.out | apply below_alloc | apply pw_below_drewN | apply below_drew1 | refine below_set ?_ (IsS67.ge HI254.out)) | exact HB.out)⟩⟩
                        · rw [if_neg c20] at H
                          have c20b0 : decide (1 ≤ ((rd_T32 l0 x6_1).f0)) = false := decide_eq_false c20
                          clear c20
                          have H' := Aside0.mk H
                          clear H
                          have p271 : 0 ≤ (x6_1 : Int) := of_decide_eq_true (by first | (with_reducible assumption) | assumption)
                          have q271 : x6_1 < (l0.length : Int) := of_decide_eq_true (by first | (with_reducible assumption) | assumption)
                          obtain ⟨ad271, e271, hx271_0, hx271_1⟩ := at_T32 HR0.out x6_1 p271 q271
                          obtain rfl : ad256 = ad271 := (by injection e271)
                          replace hx271_0 := (HB.out.cell (World.block_lt_of_cell? w _ hx271_0)).trans hx271_0
                          replace hx271_1 := (HB.out.cell (World.block_lt_of_cell? w _ hx271_1)).trans hx271_1
                          replace p271 := eq_true p271
                          replace q271 := eq_true q271
                          go_wp2_with (first | (go_at_call 12; (with_reducible refine (peer_Peer_Heard.calls kj4 g254 t266 t267 t268 t269 t270 ((rd_T32 l0 x6_1).f0) true t273 t274 t275 t276 t277 w _ ?side1 ?side2 A17.out).mono ?_); (case side1 => repeat (first | (with_reducible first | exact HI254.out | apply IsS67.alloc | apply IsS67.drewN | apply IsS67.drew | apply IsS67.set_0 | apply IsS67.set_1 | apply IsS67.set_2 | apply IsS67.set_3 | apply IsS67.set_4) | exact HI254.out)); (case side2 => repeat (first | (with_reducible first | exact HB.out | apply below_alloc | apply pw_below_drewN | apply below_drew1 | refine below_set ?_ (IsS67.ge HI254.out)) | exact HB.out)); rintro e w22 ⟨rfl, hi, hb, hk⟩; have n0_ := Aside0.mk (hb); have n1_ := Aside0.mk (hi); clear HB; clear HI254; have HB := n0_; have HI254 := n1_; clear n0_ n1_; (try clear hb); (try clear hb2); (try clear hk); (try clear hi); have p278 : 0 ≤ (x6_1 : Int) := of_decide_eq_true (by first | (with_reducible assumption) | assumption); have q278 : x6_1 < (l0.length : Int) := of_decide_eq_true (by first | (with_reducible assumption) | assumption); obtain ⟨ad278, e278, hx278_0, hx278_1⟩ := at_T32 HR0.out x6_1 p278 q278; obtain rfl : ad256 = ad278 := (by injection e278); replace hx278_0 := (HB.out.cell (World.block_lt_of_cell? w _ hx278_0)).trans hx278_0; replace hx278_1 := (HB.out.cell (World.block_lt_of_cell? w _ hx278_1)).trans hx278_1; replace p278 := eq_true p278; replace q278 := eq_true q278))
                          go_meet
                          case rel => exact ⟨_, (false), (t273), (t274), (t275), (t276), (t277), (by first | rfl | (simp; done) | (simp [*]; done)), H', ⟨by have := HK1.out; have := HJ4.out; first | omega | exact Nat.le_refl _⟩, ⟨by repeat (first | (with_reducible first | exact HI254.out | apply IsS67.alloc | apply IsS67.drewN | apply IsS67.drew | apply IsS67.set_0 | apply IsS67.set_1 | apply IsS67.set_2 | apply IsS67.set_3 | apply IsS67.set_4) | exact HI254.out)⟩, ⟨by repeat (first | (with_reducible first | exact HB.out | apply below_alloc | apply pw_below_drewN | apply below_drew1 | refine below_set ?_ (IsS67.ge HI254.out)) | exact HB.out)⟩⟩
                      · rw [if_neg c19] at H
                        have c19b0 : (t259 == 1) = false := beq_eq_false_iff_ne.mpr c19
                        have c19b1 : (t259 != 1) = true := bne_iff_ne.mpr c19
                        have H' := Aside0.mk H
                        clear H
                        have p271 : 0 ≤ (x6_1 : Int) := of_decide_eq_true (by first | (with_reducible assumption) | assumption)
                        have q271 : x6_1 < (l0.length : Int) := of_decide_eq_true (by first | (with_reducible assumption) | assumption)
                        obtain ⟨ad271, e271, hx271_0, hx271_1⟩ := at_T32 HR0.out x6_1 p271 q271
                        obtain rfl : ad256 = ad271 := (by injection e271)
                        replace hx271_0 := (HB.out.cell (World.block_lt_of_cell? w _ hx271_0)).trans hx271_0
                        replace hx271_1 := (HB.out.cell (World.block_lt_of_cell? w _ hx271_1)).trans hx271_1
                        replace p271 := eq_true p271
                        replace q271 := eq_true q271
                        go_wp2_with (first | (go_at_call 12; (with_reducible refine (peer_Peer_Heard.calls kj4 g254 t266 t267 t268 t269 t270 ((rd_T32 l0 x6_1).f0) true t273 t274 t275 t276 t277 w _ ?side1 ?side2 A17.out).mono ?_); (case side1 => repeat (first | (with_reducible first | exact HI254.out | apply IsS67.alloc | apply IsS67.drewN | apply IsS67.drew | apply IsS67.set_0 | apply IsS67.set_1 | apply IsS67.set_2 | apply IsS67.set_3 | apply IsS67.set_4) | exact HI254.out)); (case side2 => repeat (first | (with_reducible first | exact HB.out | apply below_alloc | apply pw_below_drewN | apply below_drew1 | refine below_set ?_ (IsS67.ge HI254.out)) | exact HB.out)); rintro e w23 ⟨rfl, hi, hb, hk⟩; have n0_ := Aside0.mk (hb); have n1_ := Aside0.mk (hi); clear HB; clear HI254; have HB := n0_; have HI254 := n1_; clear n0_ n1_; (try clear hb); (try clear hb2); (try clear hk); (try clear hi)))
                        go_meet
                        case rel => exact ⟨_, (false), (t273), (t274), (t275), (t276), (t277), (by first | rfl | (simp; done) | (simp [*]; done)), H', ⟨by have := HK1.out; have := HJ4.out; first | omega | exact Nat.le_refl _⟩, ⟨by repeat (first | (with_reducible first | exact HI254.out | apply IsS67.alloc | apply IsS67.drewN | apply IsS67.drew | apply IsS67.set_0 | apply IsS67.set_1 | apply IsS67.set_2 | apply IsS67.set_3 | apply IsS67.set_4) | exact HI254.out)⟩, ⟨by repeat (first | (with_reducible first | exact HB.out | apply below_alloc | apply pw_below_drewN | apply below_drew1 | refine below_set ?_ (IsS67.ge HI254.out)) | exact HB.out)⟩⟩
                    · replace c18 := Bool.eq_false_iff.mpr c18
                      subst c18
                      have H1 : (longlinelaw11_PeerWindow.j2 kj4 l0 a1 x6_1 t265 true t273 t274 t275 t276 t277) = some r := by rw [if_neg (show ¬ (false = true) by decide)] at H; exact H
                      clear H
                      have H := H1
                      clear H1
                      have H' := Aside0.mk H
                      clear H
                      have p271 : 0 ≤ (x6_1 : Int) := of_decide_eq_true (by first | (with_reducible assumption) | assumption)
                      have q271 : x6_1 < (l0.length : Int) := of_decide_eq_true (by first | (with_reducible assumption) | assumption)
                      obtain ⟨ad271, e271, hx271_0, hx271_1⟩ := at_T32 HR0.out x6_1 p271 q271
                      obtain rfl : ad256 = ad271 := (by injection e271)
                      replace hx271_0 := (HB.out.cell (World.block_lt_of_cell? w _ hx271_0)).trans hx271_0
                      replace hx271_1 := (HB.out.cell (World.block_lt_of_cell? w _ hx271_1)).trans hx271_1
                      replace p271 := eq_true p271
                      replace q271 := eq_true q271
                      go_wp2_with (first | (go_at_call 12; (with_reducible refine (peer_Peer_Heard.calls kj4 g254 t266 t267 t268 t269 t270 ((rd_T32 l0 x6_1).f0) false t273 t274 t275 t276 t277 w _ ?side1 ?side2 A17.out).mono ?_); (case side1 => repeat (first | (with_reducible first | exact HI254.out | apply IsS67.alloc | apply IsS67.drewN | apply IsS67.drew | apply IsS67.set_0 | apply IsS67.set_1 | apply IsS67.set_2 | apply IsS67.set_3 | apply IsS67.set_4) | exact HI254.out)); (case side2 => repeat (first | (with_reducible first | exact HB.out | apply below_alloc | apply pw_below_drewN | apply below_drew1 | refine below_set ?_ (IsS67.ge HI254.out)) | exact HB.out)); rintro e w24 ⟨rfl, hi, hb, hk⟩; have n0_ := Aside0.mk (hb); have n1_ := Aside0.mk (hi); clear HB; clear HI254; have HB := n0_; have HI254 := n1_; clear n0_ n1_; (try clear hb); (try clear hb2); (try clear hk); (try clear hi)))
                      go_meet
                      case rel => exact ⟨_, (true), (t273), (t274), (t275), (t276), (t277), (by first | rfl | (simp; done) | (simp [*]; done)), H', ⟨by have := HK1.out; have := HJ4.out; first | omega | exact Nat.le_refl _⟩, ⟨by repeat (first | (with_reducible first | exact HI254.out | apply IsS67.alloc | apply IsS67.drewN | apply IsS67.drew | apply IsS67.set_0 | apply IsS67.set_1 | apply IsS67.set_2 | apply IsS67.set_3 | apply IsS67.set_4) | exact HI254.out)⟩, ⟨by repeat (first | (with_reducible first | exact HB.out | apply below_alloc | apply pw_below_drewN | apply below_drew1 | refine below_set ?_ (IsS67.ge HI254.out)) | exact HB.out)⟩⟩
                  · rw [if_neg c16] at H
                    have c16b0 : (t259 == 0) = false := beq_eq_false_iff_ne.mpr c16
                    have c16b1 : (t259 != 0) = true := bne_iff_ne.mpr c16
                    (first | rw [c16b0] | (simp only [i64_w, i32_w]; rw [c16b0]) | skip)
                    by_cases c25 : t259 = 23
                    · rw [if_pos c25] at H
                      have c25b0 : (t259 == 23) = true := beq_iff_eq.mpr c25
                      have c25b1 : (t259 != 23) = false := bne_eq_false_iff_eq.mpr c25
                      clear c25
                      replace H := Option.bind_eq_some_iff.mp H
                      obtain ⟨⟨t281, t282, t283, t284, t285, t286⟩, A260, H⟩ := H
                      replace H : (if t281 = true then (if t259 = 1 then (if ((rd_T32 l0 x6_1).f0) ≥ 1 then (longlinelaw11_PeerWindow.j2 kj4 l0 a1 x6_1 t265 (decide (((rd_T32 l0 x6_1).f0) ≤ 9223372036854775807)) t282 t283 t284 t285 t286) else (longlinelaw11_PeerWindow.j2 kj4 l0 a1 x6_1 t265 false t282 t283 t284 t285 t286)) else (longlinelaw11_PeerWindow.j2 kj4 l0 a1 x6_1 t265 false t282 t283 t284 t285 t286)) else (longlinelaw11_PeerWindow.j2 kj4 l0 a1 x6_1 t265 true t282 t283 t284 t285 t286)) = some r := H
                      have A26 := Aside0.mk A260
                      clear A260
                      by_cases c27 : t281 = true
                      · subst c27
                        have H1 : (if t259 = 1 then (if ((rd_T32 l0 x6_1).f0) ≥ 1 then (longlinelaw11_PeerWindow.j2 kj4 l0 a1 x6_1 t265 (decide (((rd_T32 l0 x6_1).f0) ≤ 9223372036854775807)) t282 t283 t284 t285 t286) else (longlinelaw11_PeerWindow.j2 kj4 l0 a1 x6_1 t265 false t282 t283 t284 t285 t286)) else (longlinelaw11_PeerWindow.j2 kj4 l0 a1 x6_1 t265 false t282 t283 t284 t285 t286)) = some r := by rw [if_pos rfl] at H; exact H
                        clear H
                        have H := H1
                        clear H1
                        by_cases c28 : t259 = 1
                        · rw [if_pos c28] at H
                          have c28b0 : (t259 == 1) = true := beq_iff_eq.mpr c28
                          have c28b1 : (t259 != 1) = false := bne_eq_false_iff_eq.mpr c28
                          clear c28
                          by_cases c29 : ((rd_T32 l0 x6_1).f0) ≥ 1
                          · rw [if_pos c29] at H
                            have c29b0 : decide (1 ≤ ((rd_T32 l0 x6_1).f0)) = true := decide_eq_true c29
                            clear c29
                            have H' := Aside0.mk H
                            clear H
                            have p280 : 0 ≤ (x6_1 : Int) := of_decide_eq_true (by first | (with_reducible assumption) | assumption)
                            have q280 : x6_1 < (l0.length : Int) := of_decide_eq_true (by first | (with_reducible assumption) | assumption)
                            obtain ⟨ad280, e280, hx280_0, hx280_1⟩ := at_T32 HR0.out x6_1 p280 q280
                            obtain rfl : ad256 = ad280 := (by injection e280)
                            replace hx280_0 := (HB.out.cell (World.block_lt_of_cell? w _ hx280_0)).trans hx280_0
                            replace hx280_1 := (HB.out.cell (World.block_lt_of_cell? w _ hx280_1)).trans hx280_1
                            replace p280 := eq_true p280
                            replace q280 := eq_true q280
                            go_wp2_with (first | (go_at_call 12; (with_reducible refine (peer_Peer_Heard.calls kj4 g254 t266 t267 t268 t269 t270 ((rd_T32 l0 x6_1).f0) true t282 t283 t284 t285 t286 w _ ?side1 ?side2 A26.out).mono ?_); (case side1 => repeat (first | (with_reducible first | exact HI254.out | apply IsS67.alloc | apply IsS67.drewN | apply IsS67.drew | apply IsS67.set_0 | apply IsS67.set_1 | apply IsS67.set_2 | apply IsS67.set_3 | apply IsS67.set_4) | exact HI254.out)); (case side2 => repeat (first | (with_reducible first | exact HB.out | apply below_alloc | apply pw_below_drewN | apply below_drew1 | refine below_set ?_ (IsS67.ge HI254.out)) | exact HB.out)); rintro e w30 ⟨rfl, hi, hb, hk⟩; have n0_ := Aside0.mk (hb); have n1_ := Aside0.mk (hi); clear HB; clear HI254; have HB := n0_; have HI254 := n1_; clear n0_ n1_; (try clear hb); (try clear hb2); (try clear hk); (try clear hi); have p287 : 0 ≤ (x6_1 : Int) := of_decide_eq_true (by first | (with_reducible assumption) | assumption); have q287 : x6_1 < (l0.length : Int) := of_decide_eq_true (by first | (with_reducible assumption) | assumption); obtain ⟨ad287, e287, hx287_0, hx287_1⟩ := at_T32 HR0.out x6_1 p287 q287; obtain rfl : ad256 = ad287 := (by injection e287); replace hx287_0 := (HB.out.cell (World.block_lt_of_cell? w _ hx287_0)).trans hx287_0; replace hx287_1 := (HB.out.cell (World.block_lt_of_cell? w _ hx287_1)).trans hx287_1; replace p287 := eq_true p287; replace q287 := eq_true q287; have p288 : 0 ≤ (x6_1 : Int) := of_decide_eq_true (by first | (with_reducible assumption) | assumption); have q288 : x6_1 < (l0.length : Int) := of_decide_eq_true (by first | (with_reducible assumption) | assumption); obtain ⟨ad288, e288, hx288_0, hx288_1⟩ := at_T32 HR0.out x6_1 p288 q288; obtain rfl : ad256 = ad288 := (by injection e288); replace hx288_0 := (HB.out.cell (World.block_lt_of_cell? w _ hx288_0)).trans hx288_0; replace hx288_1 := (HB.out.cell (World.block_lt_of_cell? w _ hx288_1)).trans hx288_1; replace p288 := eq_true p288; replace q288 := eq_true q288))
                            go_meet
                            case rel => exact ⟨_, (decide (((rd_T32 l0 x6_1).f0) ≤ 9223372036854775807)), (t282), (t283), (t284), (t285), (t286), (by first | rfl | (simp; done) | (simp [*]; done)), H', ⟨by have := HK1.out; have := HJ4.out; first | omega | exact Nat.le_refl _⟩, ⟨by repeat (first | (with_reducible first | exact HI254.out | apply IsS67.alloc | apply IsS67.drewN | apply IsS67.drew | apply IsS67.set_0 | apply IsS67.set_1 | apply IsS67.set_2 | apply IsS67.set_3 | apply IsS67.set_4) | exact HI254.out)⟩, ⟨by repeat (first | (with_reducible first | exact HB.out | apply below_alloc | apply pw_below_drewN | apply below_drew1 | refine below_set ?_ (IsS67.ge HI254.out)) | exact HB.out)⟩⟩
                          · rw [if_neg c29] at H
                            have c29b0 : decide (1 ≤ ((rd_T32 l0 x6_1).f0)) = false := decide_eq_false c29
                            clear c29
                            have H' := Aside0.mk H
                            clear H
                            have p280 : 0 ≤ (x6_1 : Int) := of_decide_eq_true (by first | (with_reducible assumption) | assumption)
                            have q280 : x6_1 < (l0.length : Int) := of_decide_eq_true (by first | (with_reducible assumption) | assumption)
                            obtain ⟨ad280, e280, hx280_0, hx280_1⟩ := at_T32 HR0.out x6_1 p280 q280
                            obtain rfl : ad256 = ad280 := (by injection e280)
                            replace hx280_0 := (HB.out.cell (World.block_lt_of_cell? w _ hx280_0)).trans hx280_0
                            replace hx280_1 := (HB.out.cell (World.block_lt_of_cell? w _ hx280_1)).trans hx280_1
                            replace p280 := eq_true p280
                            replace q280 := eq_true q280
                            go_wp2_with (first | (go_at_call 12; (with_reducible refine (peer_Peer_Heard.calls kj4 g254 t266 t267 t268 t269 t270 ((rd_T32 l0 x6_1).f0) true t282 t283 t284 t285 t286 w _ ?side1 ?side2 A26.out).mono ?_); (case side1 => repeat (first | (with_reducible first | exact HI254.out | apply IsS67.alloc | apply IsS67.drewN | apply IsS67.drew | apply IsS67.set_0 | apply IsS67.set_1 | apply IsS67.set_2 | apply IsS67.set_3 | apply IsS67.set_4) | exact HI254.out)); (case side2 => repeat (first | (with_reducible first | exact HB.out | apply below_alloc | apply pw_below_drewN | apply below_drew1 | refine below_set ?_ (IsS67.ge HI254.out)) | exact HB.out)); rintro e w31 ⟨rfl, hi, hb, hk⟩; have n0_ := Aside0.mk (hb); have n1_ := Aside0.mk (hi); clear HB; clear HI254; have HB := n0_; have HI254 := n1_; clear n0_ n1_; (try clear hb); (try clear hb2); (try clear hk); (try clear hi); have p287 : 0 ≤ (x6_1 : Int) := of_decide_eq_true (by first | (with_reducible assumption) | assumption); have q287 : x6_1 < (l0.length : Int) := of_decide_eq_true (by first | (with_reducible assumption) | assumption); obtain ⟨ad287, e287, hx287_0, hx287_1⟩ := at_T32 HR0.out x6_1 p287 q287; obtain rfl : ad256 = ad287 := (by injection e287); replace hx287_0 := (HB.out.cell (World.block_lt_of_cell? w _ hx287_0)).trans hx287_0; replace hx287_1 := (HB.out.cell (World.block_lt_of_cell? w _ hx287_1)).trans hx287_1; replace p287 := eq_true p287; replace q287 := eq_true q287))
                            go_meet
                            case rel => exact ⟨_, (false), (t282), (t283), (t284), (t285), (t286), (by first | rfl | (simp; done) | (simp [*]; done)), H', ⟨by have := HK1.out; have := HJ4.out; first | omega | exact Nat.le_refl _⟩, ⟨by repeat (first | (with_reducible first | exact HI254.out | apply IsS67.alloc | apply IsS67.drewN | apply IsS67.drew | apply IsS67.set_0 | apply IsS67.set_1 | apply IsS67.set_2 | apply IsS67.set_3 | apply IsS67.set_4) | exact HI254.out)⟩, ⟨by repeat (first | (with_reducible first | exact HB.out | apply below_alloc | apply pw_below_drewN | apply below_drew1 | refine below_set ?_ (IsS67.ge HI254.out)) | exact HB.out)⟩⟩
                        · rw [if_neg c28] at H
                          have c28b0 : (t259 == 1) = false := beq_eq_false_iff_ne.mpr c28
                          have c28b1 : (t259 != 1) = true := bne_iff_ne.mpr c28
                          have H' := Aside0.mk H
                          clear H
                          have p280 : 0 ≤ (x6_1 : Int) := of_decide_eq_true (by first | (with_reducible assumption) | assumption)
                          have q280 : x6_1 < (l0.length : Int) := of_decide_eq_true (by first | (with_reducible assumption) | assumption)
                          obtain ⟨ad280, e280, hx280_0, hx280_1⟩ := at_T32 HR0.out x6_1 p280 q280
                          obtain rfl : ad256 = ad280 := (by injection e280)
                          replace hx280_0 := (HB.out.cell (World.block_lt_of_cell? w _ hx280_0)).trans hx280_0
                          replace hx280_1 := (HB.out.cell (World.block_lt_of_cell? w _ hx280_1)).trans hx280_1
                          replace p280 := eq_true p280
                          replace q280 := eq_true q280
                          go_wp2_with (first | (go_at_call 12; (with_reducible refine (peer_Peer_Heard.calls kj4 g254 t266 t267 t268 t269 t270 ((rd_T32 l0 x6_1).f0) true t282 t283 t284 t285 t286 w _ ?side1 ?side2 A26.out).mono ?_); (case side1 => repeat (first | (with_reducible first | exact HI254.out | apply IsS67.alloc | apply IsS67.drewN | apply IsS67.drew | apply IsS67.set_0 | apply IsS67.set_1 | apply IsS67.set_2 | apply IsS67.set_3 | apply IsS67.set_4) | exact HI254.out)); (case side2 => repeat (first | (with_reducible first | exact HB.out | apply below_alloc | apply pw_below_drewN | apply below_drew1 | refine below_set ?_ (IsS67.ge HI254.out)) | exact HB.out)); rintro e w32 ⟨rfl, hi, hb, hk⟩; have n0_ := Aside0.mk (hb); have n1_ := Aside0.mk (hi); clear HB; clear HI254; have HB := n0_; have HI254 := n1_; clear n0_ n1_; (try clear hb); (try clear hb2); (try clear hk); (try clear hi)))
                          go_meet
                          case rel => exact ⟨_, (false), (t282), (t283), (t284), (t285), (t286), (by first | rfl | (simp; done) | (simp [*]; done)), H', ⟨by have := HK1.out; have := HJ4.out; first | omega | exact Nat.le_refl _⟩, ⟨by repeat (first | (with_reducible first | exact HI254.out | apply IsS67.alloc | apply IsS67.drewN | apply IsS67.drew | apply IsS67.set_0 | apply IsS67.set_1 | apply IsS67.set_2 | apply IsS67.set_3 | apply IsS67.set_4) | exact HI254.out)⟩, ⟨by repeat (first | (with_reducible first | exact HB.out | apply below_alloc | apply pw_below_drewN | apply below_drew1 | refine below_set ?_ (IsS67.ge HI254.out)) | exact HB.out)⟩⟩
                      · replace c27 := Bool.eq_false_iff.mpr c27
                        subst c27
                        have H1 : (longlinelaw11_PeerWindow.j2 kj4 l0 a1 x6_1 t265 true t282 t283 t284 t285 t286) = some r := by rw [if_neg (show ¬ (false = true) by decide)] at H; exact H
                        clear H
                        have H := H1
                        clear H1
                        have H' := Aside0.mk H
                        clear H
                        have p280 : 0 ≤ (x6_1 : Int) := of_decide_eq_true (by first | (with_reducible assumption) | assumption)
                        have q280 : x6_1 < (l0.length : Int) := of_decide_eq_true (by first | (with_reducible assumption) | assumption)
                        obtain ⟨ad280, e280, hx280_0, hx280_1⟩ := at_T32 HR0.out x6_1 p280 q280
                        obtain rfl : ad256 = ad280 := (by injection e280)
                        replace hx280_0 := (HB.out.cell (World.block_lt_of_cell? w _ hx280_0)).trans hx280_0
                        replace hx280_1 := (HB.out.cell (World.block_lt_of_cell? w _ hx280_1)).trans hx280_1
                        replace p280 := eq_true p280
                        replace q280 := eq_true q280
                        go_wp2_with (first | (go_at_call 12; (with_reducible refine (peer_Peer_Heard.calls kj4 g254 t266 t267 t268 t269 t270 ((rd_T32 l0 x6_1).f0) false t282 t283 t284 t285 t286 w _ ?side1 ?side2 A26.out).mono ?_); (case side1 => repeat (first | (with_reducible first | exact HI254.out | apply IsS67.alloc | apply IsS67.drewN | apply IsS67.drew | apply IsS67.set_0 | apply IsS67.set_1 | apply IsS67.set_2 | apply IsS67.set_3 | apply IsS67.set_4) | exact HI254.out)); (case side2 => repeat (first | (with_reducible first | exact HB.out | apply below_alloc | apply pw_below_drewN | apply below_drew1 | refine below_set ?_ (IsS67.ge HI254.out)) | exact HB.out)); rintro e w33 ⟨rfl, hi, hb, hk⟩; have n0_ := Aside0.mk (hb); have n1_ := Aside0.mk (hi); clear HB; clear HI254; have HB := n0_; have HI254 := n1_; clear n0_ n1_; (try clear hb); (try clear hb2); (try clear hk); (try clear hi)))
                        go_meet
                        case rel => exact ⟨_, (true), (t282), (t283), (t284), (t285), (t286), (by first | rfl | (simp; done) | (simp [*]; done)), H', ⟨by have := HK1.out; have := HJ4.out; first | omega | exact Nat.le_refl _⟩, ⟨by repeat (first | (with_reducible first | exact HI254.out | apply IsS67.alloc | apply IsS67.drewN | apply IsS67.drew | apply IsS67.set_0 | apply IsS67.set_1 | apply IsS67.set_2 | apply IsS67.set_3 | apply IsS67.set_4) | exact HI254.out)⟩, ⟨by repeat (first | (with_reducible first | exact HB.out | apply below_alloc | apply pw_below_drewN | apply below_drew1 | refine below_set ?_ (IsS67.ge HI254.out)) | exact HB.out)⟩⟩
                    · rw [if_neg c25] at H
                      have c25b0 : (t259 == 23) = false := beq_eq_false_iff_ne.mpr c25
                      have c25b1 : (t259 != 23) = true := bne_iff_ne.mpr c25
                      by_cases c34 : t259 = 1
                      · rw [if_pos c34] at H
                        have c34b0 : (t259 == 1) = true := beq_iff_eq.mpr c34
                        have c34b1 : (t259 != 1) = false := bne_eq_false_iff_eq.mpr c34
                        clear c34
                        by_cases c35 : ((rd_T32 l0 x6_1).f0) ≥ 1
                        · rw [if_pos c35] at H
                          have c35b0 : decide (1 ≤ ((rd_T32 l0 x6_1).f0)) = true := decide_eq_true c35
                          clear c35
                          have H' := Aside0.mk H
                          clear H
                          have p289 : 0 ≤ (x6_1 : Int) := of_decide_eq_true (by first | (with_reducible assumption) | assumption)
                          have q289 : x6_1 < (l0.length : Int) := of_decide_eq_true (by first | (with_reducible assumption) | assumption)
                          obtain ⟨ad289, e289, hx289_0, hx289_1⟩ := at_T32 HR0.out x6_1 p289 q289
                          obtain rfl : ad256 = ad289 := (by injection e289)
                          replace hx289_0 := (HB.out.cell (World.block_lt_of_cell? w _ hx289_0)).trans hx289_0
                          replace hx289_1 := (HB.out.cell (World.block_lt_of_cell? w _ hx289_1)).trans hx289_1
                          replace p289 := eq_true p289
                          replace q289 := eq_true q289
                          have p290 : 0 ≤ (x6_1 : Int) := of_decide_eq_true (by first | (with_reducible assumption) | assumption)
                          have q290 : x6_1 < (l0.length : Int) := of_decide_eq_true (by first | (with_reducible assumption) | assumption)
                          obtain ⟨ad290, e290, hx290_0, hx290_1⟩ := at_T32 HR0.out x6_1 p290 q290
                          obtain rfl : ad256 = ad290 := (by injection e290)
                          replace hx290_0 := (HB.out.cell (World.block_lt_of_cell? w _ hx290_0)).trans hx290_0
                          replace hx290_1 := (HB.out.cell (World.block_lt_of_cell? w _ hx290_1)).trans hx290_1
                          replace p290 := eq_true p290
                          replace q290 := eq_true q290
                          go_wp2
                          go_meet
                          case rel => exact ⟨_, (decide (((rd_T32 l0 x6_1).f0) ≤ 9223372036854775807)), (t266), (t267), (t268), (t269), (t270), (by first | rfl | (simp; done) | (simp [*]; done)), H', ⟨by have := HK1.out; have := HJ4.out; first | omega | exact Nat.le_refl _⟩, ⟨by repeat (first | (with_reducible first | exact HI254.out | apply IsS67.alloc | apply IsS67.drewN | apply IsS67.drew | apply IsS67.set_0 | apply IsS67.set_1 | apply IsS67.set_2 | apply IsS67.set_3 | apply IsS67.set_4) | exact HI254.out)⟩, ⟨by repeat (first | (with_reducible first | exact HB.out | apply below_alloc | apply pw_below_drewN | apply below_drew1 | refine below_set ?_ (IsS67.ge HI254.out)) | exact HB.out)⟩⟩
                        · rw [if_neg c35] at H
                          have c35b0 : decide (1 ≤ ((rd_T32 l0 x6_1).f0)) = false := decide_eq_false c35
                          clear c35
                          have H' := Aside0.mk H
                          clear H
                          have p289 : 0 ≤ (x6_1 : Int) := of_decide_eq_true (by first | (with_reducible assumption) | assumption)
                          have q289 : x6_1 < (l0.length : Int) := of_decide_eq_true (by first | (with_reducible assumption) | assumption)
                          obtain ⟨ad289, e289, hx289_0, hx289_1⟩ := at_T32 HR0.out x6_1 p289 q289
                          obtain rfl : ad256 = ad289 := (by injection e289)
                          replace hx289_0 := (HB.out.cell (World.block_lt_of_cell? w _ hx289_0)).trans hx289_0
                          replace hx289_1 := (HB.out.cell (World.block_lt_of_cell? w _ hx289_1)).trans hx289_1
                          replace p289 := eq_true p289
                          replace q289 := eq_true q289
                          go_wp2
                          go_meet
                          case rel => exact ⟨_, (false), (t266), (t267), (t268), (t269), (t270), (by first | rfl | (simp; done) | (simp [*]; done)), H', ⟨by have := HK1.out; have := HJ4.out; first | omega | exact Nat.le_refl _⟩, ⟨by repeat (first | (with_reducible first | exact HI254.out | apply IsS67.alloc | apply IsS67.drewN | apply IsS67.drew | apply IsS67.set_0 | apply IsS67.set_1 | apply IsS67.set_2 | apply IsS67.set_3 | apply IsS67.set_4) | exact HI254.out)⟩, ⟨by repeat (first | (with_reducible first | exact HB.out | apply below_alloc | apply pw_below_drewN | apply below_drew1 | refine below_set ?_ (IsS67.ge HI254.out)) | exact HB.out)⟩⟩
                      · rw [if_neg c34] at H
                        have c34b0 : (t259 == 1) = false := beq_eq_false_iff_ne.mpr c34
                        have c34b1 : (t259 != 1) = true := bne_iff_ne.mpr c34
                        have H' := Aside0.mk H
                        clear H
                        go_wp2
                        go_meet
                        case rel => exact ⟨_, (false), (t266), (t267), (t268), (t269), (t270), (by first | rfl | (simp; done) | (simp [*]; done)), H', ⟨by have := HK1.out; have := HJ4.out; first | omega | exact Nat.le_refl _⟩, ⟨by repeat (first | (with_reducible first | exact HI254.out | apply IsS67.alloc | apply IsS67.drewN | apply IsS67.drew | apply IsS67.set_0 | apply IsS67.set_1 | apply IsS67.set_2 | apply IsS67.set_3 | apply IsS67.set_4) | exact HI254.out)⟩, ⟨by repeat (first | (with_reducible first | exact HB.out | apply below_alloc | apply pw_below_drewN | apply below_drew1 | refine below_set ?_ (IsS67.ge HI254.out)) | exact HB.out)⟩⟩
                case rest =>
                  clear HC12
                  try clear c1
                  try clear c2
                  try clear p2
                  try clear q2
                  try clear hx2
                  try clear c3
                  try clear c5
                  try clear c6
                  try clear c6b0
                  try clear c7
                  try clear c8
                  try clear c8b0
                  try clear c9
                  try clear c9b0
                  try clear c10
                  try clear c11
                  try clear c15
                  try clear c16
                  try clear c16b0
                  try clear c16b1
                  try clear c18
                  try clear c19
                  try clear c19b0
                  try clear c19b1
                  try clear c20
                  try clear c20b0
                  try clear c25
                  try clear c25b0
                  try clear c25b1
                  try clear p25
                  try clear q25
                  try clear hx25
                  try clear c27
                  try clear p27
                  try clear q27
                  try clear hx27
                  try clear c28
                  try clear c28b0
                  try clear c28b1
                  try clear p28
                  try clear q28
                  try clear hx28
                  try clear c29
                  try clear c29b0
                  try clear p29
                  try clear q29
                  try clear hx29
                  try clear c34
                  try clear c34b0
                  try clear c34b1
                  try clear c35
                  try clear c35b0
                  try clear hx256_0
                  try clear hx256_1
                  try clear hx257_0
                  try clear hx257_1
                  try clear hx271_0
                  try clear hx271_1
                  try clear hx278_0
                  try clear hx278_1
                  try clear hx279_0
                  try clear hx279_1
                  try clear hx280_0
                  try clear hx280_1
                  try clear hx287_0
                  try clear hx287_1
                  try clear hx288_0
                  try clear hx288_1
                  try clear hx289_0
                  try clear hx289_1
                  try clear hx290_0
                  try clear hx290_1
                  try clear p2
                  try clear p256
                  try clear p257
                  try clear p271
                  try clear p278
                  try clear p279
                  try clear p280
                  try clear p287
                  try clear p288
                  try clear p289
                  try clear p290
                  try clear q256
                  try clear q257
                  try clear q271
                  try clear q278
                  try clear q279
                  try clear q280
                  try clear q287
                  try clear q288
                  try clear q289
                  try clear q290
                  obtain ⟨kq, x73_11, x255000_11, x255001_11, x255002_11, x255003_11, x255004_11, rfl, HA, HJ11, HI254, HB⟩ := hcut
                  cases kq with
                  | zero => exact absurd HA.out (by simp [longlinelaw11_PeerWindow.j2])
                  | succ kj11 =>
                    have H := HA.out
                    clear HA
                    simp only [longlinelaw11_PeerWindow.j2] at H
                    by_cases c36 : x73_11 = true
                    · subst c36
                      have H1 : (some false) = some r := by rw [if_pos rfl] at H; exact H
                      clear H
                      have H := H1
                      clear H1
                      obtain rfl := Option.some.inj H
                      go_wp2
                      go_ret
                      exact ⟨by first | rfl | (simp [errW_none, errW_some] <;> rfl) | (simp [*, errW_none, errW_some] <;> rfl), by repeat (first | (with_reducible first | exact HB.out | apply below_alloc | apply pw_below_drewN | apply below_drew1 | refine below_set ?_ (IsS67.ge HI254.out)) | exact HB.out)⟩
                    · replace c36 := Bool.eq_false_iff.mpr c36
                      subst c36
                      have H1 : (if a1 > t265 then ((peer_Peer_Heard.f kj11 x255000_11 x255001_11 x255002_11 x255003_11 x255004_11 a1).bind fun bt291 => (if bt291.1 = true then (some false) else (if t265 > 0 then (if a1 ≤ t265 then (if (IntKind.u64.wrap (t265 - a1)) ≥ 64 then ((peer_Peer_Heard.f kj11 bt291.2.1 bt291.2.2.1 bt291.2.2.2.1 bt291.2.2.2.2.1 bt291.2.2.2.2.2 a1).bind fun bt297 => (if bt297.1 = true then ((peer_Peer_Heard.f kj11 bt297.2.1 bt297.2.2.1 bt297.2.2.2.1 bt297.2.2.2.2.1 bt297.2.2.2.2.2 t265).bind fun bt303 => (if bt303.1 = true then (longlinelaw11_PeerWindow.l0 kj11 l0 a1 (wrap64 (x6_1 + 1)) bt303.2.1 bt303.2.2.1 bt303.2.2.2.1 bt303.2.2.2.2.1 bt303.2.2.2.2.2) else (some false))) else (some false))) else ((peer_Peer_Heard.f kj11 bt291.2.1 bt291.2.2.1 bt291.2.2.2.1 bt291.2.2.2.2.1 bt291.2.2.2.2.2 t265).bind fun bt309 => (if bt309.1 = true then (longlinelaw11_PeerWindow.l0 kj11 l0 a1 (wrap64 (x6_1 + 1)) bt309.2.1 bt309.2.2.1 bt309.2.2.2.1 bt309.2.2.2.2.1 bt309.2.2.2.2.2) else (some false)))) else ((peer_Peer_Heard.f kj11 bt291.2.1 bt291.2.2.1 bt291.2.2.2.1 bt291.2.2.2.2.1 bt291.2.2.2.2.2 t265).bind fun bt315 => (if bt315.1 = true then (longlinelaw11_PeerWindow.l0 kj11 l0 a1 (wrap64 (x6_1 + 1)) bt315.2.1 bt315.2.2.1 bt315.2.2.2.1 bt315.2.2.2.2.1 bt315.2.2.2.2.2) else (some false)))) else (longlinelaw11_PeerWindow.l0 kj11 l0 a1 (wrap64 (x6_1 + 1)) bt291.2.1 bt291.2.2.1 bt291.2.2.2.1 bt291.2.2.2.2.1 bt291.2.2.2.2.2)))) else (if t265 > 0 then (if a1 ≤ t265 then (if (IntKind.u64.wrap (t265 - a1)) ≥ 64 then ((peer_Peer_Heard.f kj11 x255000_11 x255001_11 x255002_11 x255003_11 x255004_11 a1).bind fun bt321 => (if bt321.1 = true then ((peer_Peer_Heard.f kj11 bt321.2.1 bt321.2.2.1 bt321.2.2.2.1 bt321.2.2.2.2.1 bt321.2.2.2.2.2 t265).bind fun bt327 => (if bt327.1 = true then (longlinelaw11_PeerWindow.l0 kj11 l0 a1 (wrap64 (x6_1 + 1)) bt327.2.1 bt327.2.2.1 bt327.2.2.2.1 bt327.2.2.2.2.1 bt327.2.2.2.2.2) else (some false))) else (some false))) else ((peer_Peer_Heard.f kj11 x255000_11 x255001_11 x255002_11 x255003_11 x255004_11 t265).bind fun bt333 => (if bt333.1 = true then (longlinelaw11_PeerWindow.l0 kj11 l0 a1 (wrap64 (x6_1 + 1)) bt333.2.1 bt333.2.2.1 bt333.2.2.2.1 bt333.2.2.2.2.1 bt333.2.2.2.2.2) else (some false)))) else ((peer_Peer_Heard.f kj11 x255000_11 x255001_11 x255002_11 x255003_11 x255004_11 t265).bind fun bt339 => (if bt339.1 = true then (longlinelaw11_PeerWindow.l0 kj11 l0 a1 (wrap64 (x6_1 + 1)) bt339.2.1 bt339.2.2.1 bt339.2.2.2.1 bt339.2.2.2.2.1 bt339.2.2.2.2.2) else (some false)))) else (longlinelaw11_PeerWindow.l0 kj11 l0 a1 (wrap64 (x6_1 + 1)) x255000_11 x255001_11 x255002_11 x255003_11 x255004_11))) = some r := by rw [if_neg (show ¬ (false = true) by decide)] at H; exact H
                      clear H
                      have H := H1
                      clear H1
                      by_cases c37 : a1 > t265
                      · rw [if_pos c37] at H
                        have c37b0 : decide (t265 < a1) = true := decide_eq_true c37
                        clear c37
                        replace H := Option.bind_eq_some_iff.mp H
                        obtain ⟨⟨t291, t292, t293, t294, t295, t296⟩, A380, H⟩ := H
                        replace H : (if t291 = true then (some false) else (if t265 > 0 then (if a1 ≤ t265 then (if (IntKind.u64.wrap (t265 - a1)) ≥ 64 then ((peer_Peer_Heard.f kj11 t292 t293 t294 t295 t296 a1).bind fun bt297 => (if bt297.1 = true then ((peer_Peer_Heard.f kj11 bt297.2.1 bt297.2.2.1 bt297.2.2.2.1 bt297.2.2.2.2.1 bt297.2.2.2.2.2 t265).bind fun bt303 => (if bt303.1 = true then (longlinelaw11_PeerWindow.l0 kj11 l0 a1 (wrap64 (x6_1 + 1)) bt303.2.1 bt303.2.2.1 bt303.2.2.2.1 bt303.2.2.2.2.1 bt303.2.2.2.2.2) else (some false))) else (some false))) else ((peer_Peer_Heard.f kj11 t292 t293 t294 t295 t296 t265).bind fun bt309 => (if bt309.1 = true then (longlinelaw11_PeerWindow.l0 kj11 l0 a1 (wrap64 (x6_1 + 1)) bt309.2.1 bt309.2.2.1 bt309.2.2.2.1 bt309.2.2.2.2.1 bt309.2.2.2.2.2) else (some false)))) else ((peer_Peer_Heard.f kj11 t292 t293 t294 t295 t296 t265).bind fun bt315 => (if bt315.1 = true then (longlinelaw11_PeerWindow.l0 kj11 l0 a1 (wrap64 (x6_1 + 1)) bt315.2.1 bt315.2.2.1 bt315.2.2.2.1 bt315.2.2.2.2.1 bt315.2.2.2.2.2) else (some false)))) else (longlinelaw11_PeerWindow.l0 kj11 l0 a1 (wrap64 (x6_1 + 1)) t292 t293 t294 t295 t296))) = some r := H
                        have A38 := Aside0.mk A380
                        clear A380
                        by_cases c39 : t291 = true
                        · subst c39
                          have H1 : (some false) = some r := by rw [if_pos rfl] at H; exact H
                          clear H
                          have H := H1
                          clear H1
                          obtain rfl := Option.some.inj H
                          go_wp2_with (first | (go_at_call 12; (with_reducible refine (peer_Peer_Heard.calls kj11 g254 x255000_11 x255001_11 x255002_11 x255003_11 x255004_11 a1 true t292 t293 t294 t295 t296 w _ ?side1 ?side2 A38.out).mono ?_); (case side1 => repeat (first | (with_reducible first | exact HI254.out | apply IsS67.alloc | apply IsS67.drewN | apply IsS67.drew | apply IsS67.set_0 | apply IsS67.set_1 | apply IsS67.set_2 | apply IsS67.set_3 | apply IsS67.set_4) | exact HI254.out)); (case side2 => repeat (first | (with_reducible first | exact HB.out | apply below_alloc | apply pw_below_drewN | apply below_drew1 | refine below_set ?_ (IsS67.ge HI254.out)) | exact HB.out)); rintro e w40 ⟨rfl, hi, hb, hk⟩; have n0_ := Aside0.mk (hb); have n1_ := Aside0.mk (hi); clear HB; clear HI254; have HB := n0_; have HI254 := n1_; clear n0_ n1_; (try clear hb); (try clear hb2); (try clear hk); (try clear hi)))
                          go_ret
                          exact ⟨by first | rfl | (simp [errW_none, errW_some] <;> rfl) | (simp [*, errW_none, errW_some] <;> rfl), by repeat (first | (with_reducible first | exact HB.out | apply below_alloc | apply pw_below_drewN | apply below_drew1 | refine below_set ?_ (IsS67.ge HI254.out)) | exact HB.out)⟩
                        · replace c39 := Bool.eq_false_iff.mpr c39
                          subst c39
                          have H1 : (if t265 > 0 then (if a1 ≤ t265 then (if (IntKind.u64.wrap (t265 - a1)) ≥ 64 then ((peer_Peer_Heard.f kj11 t292 t293 t294 t295 t296 a1).bind fun bt297 => (if bt297.1 = true then ((peer_Peer_Heard.f kj11 bt297.2.1 bt297.2.2.1 bt297.2.2.2.1 bt297.2.2.2.2.1 bt297.2.2.2.2.2 t265).bind fun bt303 => (if bt303.1 = true then (longlinelaw11_PeerWindow.l0 kj11 l0 a1 (wrap64 (x6_1 + 1)) bt303.2.1 bt303.2.2.1 bt303.2.2.2.1 bt303.2.2.2.2.1 bt303.2.2.2.2.2) else (some false))) else (some false))) else ((peer_Peer_Heard.f kj11 t292 t293 t294 t295 t296 t265).bind fun bt309 => (if bt309.1 = true then (longlinelaw11_PeerWindow.l0 kj11 l0 a1 (wrap64 (x6_1 + 1)) bt309.2.1 bt309.2.2.1 bt309.2.2.2.1 bt309.2.2.2.2.1 bt309.2.2.2.2.2) else (some false)))) else ((peer_Peer_Heard.f kj11 t292 t293 t294 t295 t296 t265).bind fun bt315 => (if bt315.1 = true then (longlinelaw11_PeerWindow.l0 kj11 l0 a1 (wrap64 (x6_1 + 1)) bt315.2.1 bt315.2.2.1 bt315.2.2.2.1 bt315.2.2.2.2.1 bt315.2.2.2.2.2) else (some false)))) else (longlinelaw11_PeerWindow.l0 kj11 l0 a1 (wrap64 (x6_1 + 1)) t292 t293 t294 t295 t296)) = some r := by rw [if_neg (show ¬ (false = true) by decide)] at H; exact H
                          clear H
                          have H := H1
                          clear H1
                          by_cases c41 : t265 > 0
                          · rw [if_pos c41] at H
                            have c41b0 : decide (0 < t265) = true := decide_eq_true c41
                            clear c41
                            by_cases c42 : a1 ≤ t265
                            · rw [if_pos c42] at H
                              have c42b0 : decide (a1 ≤ t265) = true := decide_eq_true c42
                              clear c42
                              by_cases c43 : (IntKind.u64.wrap (t265 - a1)) ≥ 64
                              · rw [if_pos c43] at H
                                have c43b0 : decide (64 ≤ (IntKind.u64.wrap (t265 - a1))) = true := decide_eq_true c43
                                clear c43
                                replace H := Option.bind_eq_some_iff.mp H
                                obtain ⟨⟨t297, t298, t299, t300, t301, t302⟩, A440, H⟩ := H
                                replace H : (if t297 = true then ((peer_Peer_Heard.f kj11 t298 t299 t300 t301 t302 t265).bind fun bt303 => (if bt303.1 = true then (longlinelaw11_PeerWindow.l0 kj11 l0 a1 (wrap64 (x6_1 + 1)) bt303.2.1 bt303.2.2.1 bt303.2.2.2.1 bt303.2.2.2.2.1 bt303.2.2.2.2.2) else (some false))) else (some false)) = some r := H
                                have A44 := Aside0.mk A440
                                clear A440
                                by_cases c45 : t297 = true
                                · subst c45
                                  have H1 : ((peer_Peer_Heard.f kj11 t298 t299 t300 t301 t302 t265).bind fun bt303 => (if bt303.1 = true then (longlinelaw11_PeerWindow.l0 kj11 l0 a1 (wrap64 (x6_1 + 1)) bt303.2.1 bt303.2.2.1 bt303.2.2.2.1 bt303.2.2.2.2.1 bt303.2.2.2.2.2) else (some false))) = some r := by rw [if_pos rfl] at H; exact H
                                  clear H
                                  have H := H1
                                  clear H1
                                  replace H := Option.bind_eq_some_iff.mp H
                                  obtain ⟨⟨t303, t304, t305, t306, t307, t308⟩, A460, H⟩ := H
                                  replace H : (if t303 = true then (longlinelaw11_PeerWindow.l0 kj11 l0 a1 (wrap64 (x6_1 + 1)) t304 t305 t306 t307 t308) else (some false)) = some r := H
                                  have A46 := Aside0.mk A460
                                  clear A460
                                  by_cases c47 : t303 = true
                                  · subst c47
                                    have H1 : (longlinelaw11_PeerWindow.l0 kj11 l0 a1 (wrap64 (x6_1 + 1)) t304 t305 t306 t307 t308) = some r := by rw [if_pos rfl] at H; exact H
                                    clear H
                                    have H := H1
                                    clear H1
                                    have H' := Aside0.mk H
                                    clear H
                                    go_wp2_with (first | (go_at_call 12; (with_reducible refine (peer_Peer_Heard.calls kj11 g254 x255000_11 x255001_11 x255002_11 x255003_11 x255004_11 a1 false t292 t293 t294 t295 t296 w _ ?side1 ?side2 A38.out).mono ?_); (case side1 => repeat (first | (with_reducible first | exact HI254.out | apply IsS67.alloc | apply IsS67.drewN | apply IsS67.drew | apply IsS67.set_0 | apply IsS67.set_1 | apply IsS67.set_2 | apply IsS67.set_3 | apply IsS67.set_4) | exact HI254.out)); (case side2 => repeat (first | (with_reducible first | exact HB.out | apply below_alloc | apply pw_below_drewN | apply below_drew1 | refine below_set ?_ (IsS67.ge HI254.out)) | exact HB.out)); rintro e w48 ⟨rfl, hi, hb, hk⟩; have n0_ := Aside0.mk (hb); have n1_ := Aside0.mk (hi); clear HB; clear HI254; have HB := n0_; have HI254 := n1_; clear n0_ n1_; (try clear hb); (try clear hb2); (try clear hk); (try clear hi)) | (go_at_call 12; (with_reducible refine (peer_Peer_Heard.calls kj11 g254 t292 t293 t294 t295 t296 a1 true t298 t299 t300 t301 t302 w _ ?side1 ?side2 A44.out).mono ?_); (case side1 => repeat (first | (with_reducible first | exact HI254.out | apply IsS67.alloc | apply IsS67.drewN | apply IsS67.drew | apply IsS67.set_0 | apply IsS67.set_1 | apply IsS67.set_2 | apply IsS67.set_3 | apply IsS67.set_4) | exact HI254.out)); (case side2 => repeat (first | (with_reducible first | exact HB.out | apply below_alloc | apply pw_below_drewN | apply below_drew1 | refine below_set ?_ (IsS67.ge HI254.out)) | exact HB.out)); rintro e w49 ⟨rfl, hi, hb, hk⟩; have n0_ := Aside0.mk (hb); have n1_ := Aside0.mk (hi); clear HB; clear HI254; have HB := n0_; have HI254 := n1_; clear n0_ n1_; (try clear hb); (try clear hb2); (try clear hk); (try clear hi)) | (go_at_call 12; (with_reducible refine (peer_Peer_Heard.calls kj11 g254 t298 t299 t300 t301 t302 t265 true t304 t305 t306 t307 t308 w _ ?side1 ?side2 A46.out).mono ?_); (case side1 => repeat (first | (with_reducible first | exact HI254.out | apply IsS67.alloc | apply IsS67.drewN | apply IsS67.drew | apply IsS67.set_0 | apply IsS67.set_1 | apply IsS67.set_2 | apply IsS67.set_3 | apply IsS67.set_4) | exact HI254.out)); (case side2 => repeat (first | (with_reducible first | exact HB.out | apply below_alloc | apply pw_below_drewN | apply below_drew1 | refine below_set ?_ (IsS67.ge HI254.out)) | exact HB.out)); rintro e w50 ⟨rfl, hi, hb, hk⟩; have n0_ := Aside0.mk (hb); have n1_ := Aside0.mk (hi); clear HB; clear HI254; have HB := n0_; have HI254 := n1_; clear n0_ n1_; (try clear hb); (try clear hb2); (try clear hk); (try clear hi)))
                                    go_roundg kj11
                                    case measure => have := HK1.out; have := HJ4.out; have := HJ11.out; omega
                                    case rel => exact ⟨(wrap64 (x6_1 + 1)), (t304), (t305), (t306), (t307), (t308), (by first | rfl | (simp; done) | (simp [*]; done)), H', ⟨by have := HK1.out; have := HJ4.out; have := HJ11.out; omega⟩, ⟨by repeat (first | (with_reducible first | exact HI254.out | apply IsS67.alloc | apply IsS67.drewN | apply IsS67.drew | apply IsS67.set_0 | apply IsS67.set_1 | apply IsS67.set_2 | apply IsS67.set_3 | apply IsS67.set_4) | exact HI254.out)⟩, ⟨by repeat (first | (with_reducible first | exact HB.out | apply below_alloc | apply pw_below_drewN | apply below_drew1 | refine below_set ?_ (IsS67.ge HI254.out)) | exact HB.out)⟩⟩
                                  · replace c47 := Bool.eq_false_iff.mpr c47
                                    subst c47
                                    have H1 : (some false) = some r := by rw [if_neg (show ¬ (false = true) by decide)] at H; exact H
                                    clear H
                                    have H := H1
                                    clear H1
                                    obtain rfl := Option.some.inj H
                                    go_wp2_with (first | (go_at_call 12; (with_reducible refine (peer_Peer_Heard.calls kj11 g254 x255000_11 x255001_11 x255002_11 x255003_11 x255004_11 a1 false t292 t293 t294 t295 t296 w _ ?side1 ?side2 A38.out).mono ?_); (case side1 => repeat (first | (with_reducible first | exact HI254.out | apply IsS67.alloc | apply IsS67.drewN | apply IsS67.drew | apply IsS67.set_0 | apply IsS67.set_1 | apply IsS67.set_2 | apply IsS67.set_3 | apply IsS67.set_4) | exact HI254.out)); (case side2 => repeat (first | (with_reducible first | exact HB.out | apply below_alloc | apply pw_below_drewN | apply below_drew1 | refine below_set ?_ (IsS67.ge HI254.out)) | exact HB.out)); rintro e w51 ⟨rfl, hi, hb, hk⟩; have n0_ := Aside0.mk (hb); have n1_ := Aside0.mk (hi); clear HB; clear HI254; have HB := n0_; have HI254 := n1_; clear n0_ n1_; (try clear hb); (try clear hb2); (try clear hk); (try clear hi)) | (go_at_call 12; (with_reducible refine (peer_Peer_Heard.calls kj11 g254 t292 t293 t294 t295 t296 a1 true t298 t299 t300 t301 t302 w _ ?side1 ?side2 A44.out).mono ?_); (case side1 => repeat (first | (with_reducible first | exact HI254.out | apply IsS67.alloc | apply IsS67.drewN | apply IsS67.drew | apply IsS67.set_0 | apply IsS67.set_1 | apply IsS67.set_2 | apply IsS67.set_3 | apply IsS67.set_4) | exact HI254.out)); (case side2 => repeat (first | (with_reducible first | exact HB.out | apply below_alloc | apply pw_below_drewN | apply below_drew1 | refine below_set ?_ (IsS67.ge HI254.out)) | exact HB.out)); rintro e w52 ⟨rfl, hi, hb, hk⟩; have n0_ := Aside0.mk (hb); have n1_ := Aside0.mk (hi); clear HB; clear HI254; have HB := n0_; have HI254 := n1_; clear n0_ n1_; (try clear hb); (try clear hb2); (try clear hk); (try clear hi)) | (go_at_call 12; (with_reducible refine (peer_Peer_Heard.calls kj11 g254 t298 t299 t300 t301 t302 t265 false t304 t305 t306 t307 t308 w _ ?side1 ?side2 A46.out).mono ?_); (case side1 => repeat (first | (with_reducible first | exact HI254.out | apply IsS67.alloc | apply IsS67.drewN | apply IsS67.drew | apply IsS67.set_0 | apply IsS67.set_1 | apply IsS67.set_2 | apply IsS67.set_3 | apply IsS67.set_4) | exact HI254.out)); (case side2 => repeat (first | (with_reducible first | exact HB.out | apply below_alloc | apply pw_below_drewN | apply below_drew1 | refine below_set ?_ (IsS67.ge HI254.out)) | exact HB.out)); rintro e w53 ⟨rfl, hi, hb, hk⟩; have n0_ := Aside0.mk (hb); have n1_ := Aside0.mk (hi); clear HB; clear HI254; have HB := n0_; have HI254 := n1_; clear n0_ n1_; (try clear hb); (try clear hb2); (try clear hk); (try clear hi)))
                                    go_ret
                                    exact ⟨by first | rfl | (simp [errW_none, errW_some] <;> rfl) | (simp [*, errW_none, errW_some] <;> rfl), by repeat (first | (with_reducible first | exact HB.out | apply below_alloc | apply pw_below_drewN | apply below_drew1 | refine below_set ?_ (IsS67.ge HI254.out)) | exact HB.out)⟩
                                · replace c45 := Bool.eq_false_iff.mpr c45
                                  subst c45
                                  have H1 : (some false) = some r := by rw [if_neg (show ¬ (false = true) by decide)] at H; exact H
                                  clear H
                                  have H := H1
                                  clear H1
                                  obtain rfl := Option.some.inj H
                                  go_wp2_with (first | (go_at_call 12; (with_reducible refine (peer_Peer_Heard.calls kj11 g254 x255000_11 x255001_11 x255002_11 x255003_11 x255004_11 a1 false t292 t293 t294 t295 t296 w _ ?side1 ?side2 A38.out).mono ?_); (case side1 => repeat (first | (with_reducible first | exact HI254.out | apply IsS67.alloc | apply IsS67.drewN | apply IsS67.drew | apply IsS67.set_0 | apply IsS67.set_1 | apply IsS67.set_2 | apply IsS67.set_3 | apply IsS67.set_4) | exact HI254.out)); (case side2 => repeat (first | (with_reducible first | exact HB.out | apply below_alloc | apply pw_below_drewN | apply below_drew1 | refine below_set ?_ (IsS67.ge HI254.out)) | exact HB.out)); rintro e w54 ⟨rfl, hi, hb, hk⟩; have n0_ := Aside0.mk (hb); have n1_ := Aside0.mk (hi); clear HB; clear HI254; have HB := n0_; have HI254 := n1_; clear n0_ n1_; (try clear hb); (try clear hb2); (try clear hk); (try clear hi)) | (go_at_call 12; (with_reducible refine (peer_Peer_Heard.calls kj11 g254 t292 t293 t294 t295 t296 a1 false t298 t299 t300 t301 t302 w _ ?side1 ?side2 A44.out).mono ?_); (case side1 => repeat (first | (with_reducible first | exact HI254.out | apply IsS67.alloc | apply IsS67.drewN | apply IsS67.drew | apply IsS67.set_0 | apply IsS67.set_1 | apply IsS67.set_2 | apply IsS67.set_3 | apply IsS67.set_4) | exact HI254.out)); (case side2 => repeat (first | (with_reducible first | exact HB.out | apply below_alloc | apply pw_below_drewN | apply below_drew1 | refine below_set ?_ (IsS67.ge HI254.out)) | exact HB.out)); rintro e w55 ⟨rfl, hi, hb, hk⟩; have n0_ := Aside0.mk (hb); have n1_ := Aside0.mk (hi); clear HB; clear HI254; have HB := n0_; have HI254 := n1_; clear n0_ n1_; (try clear hb); (try clear hb2); (try clear hk); (try clear hi)))
                                  go_ret
                                  exact ⟨by first | rfl | (simp [errW_none, errW_some] <;> rfl) | (simp [*, errW_none, errW_some] <;> rfl), by repeat (first | (with_reducible first | exact HB.out | apply below_alloc | apply pw_below_drewN | apply below_drew1 | refine below_set ?_ (IsS67.ge HI254.out)) | exact HB.out)⟩
                              · rw [if_neg c43] at H
                                have c43b0 : decide (64 ≤ (IntKind.u64.wrap (t265 - a1))) = false := decide_eq_false c43
                                clear c43
                                replace H := Option.bind_eq_some_iff.mp H
                                obtain ⟨⟨t309, t310, t311, t312, t313, t314⟩, A560, H⟩ := H
                                replace H : (if t309 = true then (longlinelaw11_PeerWindow.l0 kj11 l0 a1 (wrap64 (x6_1 + 1)) t310 t311 t312 t313 t314) else (some false)) = some r := H
                                have A56 := Aside0.mk A560
                                clear A560
                                by_cases c57 : t309 = true
                                · subst c57
                                  have H1 : (longlinelaw11_PeerWindow.l0 kj11 l0 a1 (wrap64 (x6_1 + 1)) t310 t311 t312 t313 t314) = some r := by rw [if_pos rfl] at H; exact H
                                  clear H
                                  have H := H1
                                  clear H1
                                  have H' := Aside0.mk H
                                  clear H
                                  go_wp2_with (first | (go_at_call 12; (with_reducible refine (peer_Peer_Heard.calls kj11 g254 x255000_11 x255001_11 x255002_11 x255003_11 x255004_11 a1 false t292 t293 t294 t295 t296 w _ ?side1 ?side2 A38.out).mono ?_); (case side1 => repeat (first | (with_reducible first | exact HI254.out | apply IsS67.alloc | apply IsS67.drewN | apply IsS67.drew | apply IsS67.set_0 | apply IsS67.set_1 | apply IsS67.set_2 | apply IsS67.set_3 | apply IsS67.set_4) | exact HI254.out)); (case side2 => repeat (first | (with_reducible first | exact HB.out | apply below_alloc | apply pw_below_drewN | apply below_drew1 | refine below_set ?_ (IsS67.ge HI254.out)) | exact HB.out)); rintro e w58 ⟨rfl, hi, hb, hk⟩; have n0_ := Aside0.mk (hb); have n1_ := Aside0.mk (hi); clear HB; clear HI254; have HB := n0_; have HI254 := n1_; clear n0_ n1_; (try clear hb); (try clear hb2); (try clear hk); (try clear hi)) | (go_at_call 12; (with_reducible refine (peer_Peer_Heard.calls kj11 g254 t292 t293 t294 t295 t296 t265 true t310 t311 t312 t313 t314 w _ ?side1 ?side2 A56.out).mono ?_); (case side1 => repeat (first | (with_reducible first | exact HI254.out | apply IsS67.alloc | apply IsS67.drewN | apply IsS67.drew | apply IsS67.set_0 | apply IsS67.set_1 | apply IsS67.set_2 | apply IsS67.set_3 | apply IsS67.set_4) | exact HI254.out)); (case side2 => repeat (first | (with_reducible first | exact HB.out | apply below_alloc | apply pw_below_drewN | apply below_drew1 | refine below_set ?_ (IsS67.ge HI254.out)) | exact HB.out)); rintro e w59 ⟨rfl, hi, hb, hk⟩; have n0_ := Aside0.mk (hb); have n1_ := Aside0.mk (hi); clear HB; clear HI254; have HB := n0_; have HI254 := n1_; clear n0_ n1_; (try clear hb); (try clear hb2); (try clear hk); (try clear hi)))
                                  go_roundg kj11
                                  case measure => have := HK1.out; have := HJ4.out; have := HJ11.out; omega
                                  case rel => exact ⟨(wrap64 (x6_1 + 1)), (t310), (t311), (t312), (t313), (t314), (by first | rfl | (simp; done) | (simp [*]; done)), H', ⟨by have := HK1.out; have := HJ4.out; have := HJ11.out; omega⟩, ⟨by repeat (first | (with_reducible first | exact HI254.out | apply IsS67.alloc | apply IsS67.drewN | apply IsS67.drew | apply IsS67.set_0 | apply IsS67.set_1 | apply IsS67.set_2 | apply IsS67.set_3 | apply IsS67.set_4) | exact HI254.out)⟩, ⟨by repeat (first | (with_reducible first | exact HB.out | apply below_alloc | apply pw_below_drewN | apply below_drew1 | refine below_set ?_ (IsS67.ge HI254.out)) | exact HB.out)⟩⟩
                                · replace c57 := Bool.eq_false_iff.mpr c57
                                  subst c57
                                  have H1 : (some false) = some r := by rw [if_neg (show ¬ (false = true) by decide)] at H; exact H
                                  clear H
                                  have H := H1
                                  clear H1
                                  obtain rfl := Option.some.inj H
                                  go_wp2_with (first | (go_at_call 12; (with_reducible refine (peer_Peer_Heard.calls kj11 g254 x255000_11 x255001_11 x255002_11 x255003_11 x255004_11 a1 false t292 t293 t294 t295 t296 w _ ?side1 ?side2 A38.out).mono ?_); (case side1 => repeat (first | (with_reducible first | exact HI254.out | apply IsS67.alloc | apply IsS67.drewN | apply IsS67.drew | apply IsS67.set_0 | apply IsS67.set_1 | apply IsS67.set_2 | apply IsS67.set_3 | apply IsS67.set_4) | exact HI254.out)); (case side2 => repeat (first | (with_reducible first | exact HB.out | apply below_alloc | apply pw_below_drewN | apply below_drew1 | refine below_set ?_ (IsS67.ge HI254.out)) | exact HB.out)); rintro e w60 ⟨rfl, hi, hb, hk⟩; have n0_ := Aside0.mk (hb); have n1_ := Aside0.mk (hi); clear HB; clear HI254; have HB := n0_; have HI254 := n1_; clear n0_ n1_; (try clear hb); (try clear hb2); (try clear hk); (try clear hi)) | (go_at_call 12; (with_reducible refine (peer_Peer_Heard.calls kj11 g254 t292 t293 t294 t295 t296 t265 false t310 t311 t312 t313 t314 w _ ?side1 ?side2 A56.out).mono ?_); (case side1 => repeat (first | (with_reducible first | exact HI254.out | apply IsS67.alloc | apply IsS67.drewN | apply IsS67.drew | apply IsS67.set_0 | apply IsS67.set_1 | apply IsS67.set_2 | apply IsS67.set_3 | apply IsS67.set_4) | exact HI254.out)); (case side2 => repeat (first | (with_reducible first | exact HB.out | apply below_alloc | apply pw_below_drewN | apply below_drew1 | refine below_set ?_ (IsS67.ge HI254.out)) | exact HB.out)); rintro e w61 ⟨rfl, hi, hb, hk⟩; have n0_ := Aside0.mk (hb); have n1_ := Aside0.mk (hi); clear HB; clear HI254; have HB := n0_; have HI254 := n1_; clear n0_ n1_; (try clear hb); (try clear hb2); (try clear hk); (try clear hi)))
                                  go_ret
                                  exact ⟨by first | rfl | (simp [errW_none, errW_some] <;> rfl) | (simp [*, errW_none, errW_some] <;> rfl), by repeat (first | (with_reducible first | exact HB.out | apply below_alloc | apply pw_below_drewN | apply below_drew1 | refine below_set ?_ (IsS67.ge HI254.out)) | exact HB.out)⟩
                            · rw [if_neg c42] at H
                              have c42b0 : decide (a1 ≤ t265) = false := decide_eq_false c42
                              clear c42
                              replace H := Option.bind_eq_some_iff.mp H
                              obtain ⟨⟨t315, t316, t317, t318, t319, t320⟩, A620, H⟩ := H
                              replace H : (if t315 = true then (longlinelaw11_PeerWindow.l0 kj11 l0 a1 (wrap64 (x6_1 + 1)) t316 t317 t318 t319 t320) else (some false)) = some r := H
                              have A62 := Aside0.mk A620
                              clear A620
                              by_cases c63 : t315 = true
                              · subst c63
                                have H1 : (longlinelaw11_PeerWindow.l0 kj11 l0 a1 (wrap64 (x6_1 + 1)) t316 t317 t318 t319 t320) = some r := by rw [if_pos rfl] at H; exact H
                                clear H
                                have H := H1
                                clear H1
                                have H' := Aside0.mk H
                                clear H
                                go_wp2_with (first | (go_at_call 12; (with_reducible refine (peer_Peer_Heard.calls kj11 g254 x255000_11 x255001_11 x255002_11 x255003_11 x255004_11 a1 false t292 t293 t294 t295 t296 w _ ?side1 ?side2 A38.out).mono ?_); (case side1 => repeat (first | (with_reducible first | exact HI254.out | apply IsS67.alloc | apply IsS67.drewN | apply IsS67.drew | apply IsS67.set_0 | apply IsS67.set_1 | apply IsS67.set_2 | apply IsS67.set_3 | apply IsS67.set_4) | exact HI254.out)); (case side2 => repeat (first | (with_reducible first | exact HB.out | apply below_alloc | apply pw_below_drewN | apply below_drew1 | refine below_set ?_ (IsS67.ge HI254.out)) | exact HB.out)); rintro e w64 ⟨rfl, hi, hb, hk⟩; have n0_ := Aside0.mk (hb); have n1_ := Aside0.mk (hi); clear HB; clear HI254; have HB := n0_; have HI254 := n1_; clear n0_ n1_; (try clear hb); (try clear hb2); (try clear hk); (try clear hi)) | (go_at_call 12; (with_reducible refine (peer_Peer_Heard.calls kj11 g254 t292 t293 t294 t295 t296 t265 true t316 t317 t318 t319 t320 w _ ?side1 ?side2 A62.out).mono ?_); (case side1 => repeat (first | (with_reducible first | exact HI254.out | apply IsS67.alloc | apply IsS67.drewN | apply IsS67.drew | apply IsS67.set_0 | apply IsS67.set_1 | apply IsS67.set_2 | apply IsS67.set_3 | apply IsS67.set_4) | exact HI254.out)); (case side2 => repeat (first | (with_reducible first | exact HB.out | apply below_alloc | apply pw_below_drewN | apply below_drew1 | refine below_set ?_ (IsS67.ge HI254.out)) | exact HB.out)); rintro e w65 ⟨rfl, hi, hb, hk⟩; have n0_ := Aside0.mk (hb); have n1_ := Aside0.mk (hi); clear HB; clear HI254; have HB := n0_; have HI254 := n1_; clear n0_ n1_; (try clear hb); (try clear hb2); (try clear hk); (try clear hi)))
                                go_roundg kj11
                                case measure => have := HK1.out; have := HJ4.out; have := HJ11.out; omega
                                case rel => exact ⟨(wrap64 (x6_1 + 1)), (t316), (t317), (t318), (t319), (t320), (by first | rfl | (simp; done) | (simp [*]; done)), H', ⟨by have := HK1.out; have := HJ4.out; have := HJ11.out; omega⟩, ⟨by repeat (first | (with_reducible first | exact HI254.out | apply IsS67.alloc | apply IsS67.drewN | apply IsS67.drew | apply IsS67.set_0 | apply IsS67.set_1 | apply IsS67.set_2 | apply IsS67.set_3 | apply IsS67.set_4) | exact HI254.out)⟩, ⟨by repeat (first | (with_reducible first | exact HB.out | apply below_alloc | apply pw_below_drewN | apply below_drew1 | refine below_set ?_ (IsS67.ge HI254.out)) | exact HB.out)⟩⟩
                              · replace c63 := Bool.eq_false_iff.mpr c63
                                subst c63
                                have H1 : (some false) = some r := by rw [if_neg (show ¬ (false = true) by decide)] at H; exact H
                                clear H
                                have H := H1
                                clear H1
                                obtain rfl := Option.some.inj H
                                go_wp2_with (first | (go_at_call 12; (with_reducible refine (peer_Peer_Heard.calls kj11 g254 x255000_11 x255001_11 x255002_11 x255003_11 x255004_11 a1 false t292 t293 t294 t295 t296 w _ ?side1 ?side2 A38.out).mono ?_); (case side1 => repeat (first | (with_reducible first | exact HI254.out | apply IsS67.alloc | apply IsS67.drewN | apply IsS67.drew | apply IsS67.set_0 | apply IsS67.set_1 | apply IsS67.set_2 | apply IsS67.set_3 | apply IsS67.set_4) | exact HI254.out)); (case side2 => repeat (first | (with_reducible first | exact HB.out | apply below_alloc | apply pw_below_drewN | apply below_drew1 | refine below_set ?_ (IsS67.ge HI254.out)) | exact HB.out)); rintro e w66 ⟨rfl, hi, hb, hk⟩; have n0_ := Aside0.mk (hb); have n1_ := Aside0.mk (hi); clear HB; clear HI254; have HB := n0_; have HI254 := n1_; clear n0_ n1_; (try clear hb); (try clear hb2); (try clear hk); (try clear hi)) | (go_at_call 12; (with_reducible refine (peer_Peer_Heard.calls kj11 g254 t292 t293 t294 t295 t296 t265 false t316 t317 t318 t319 t320 w _ ?side1 ?side2 A62.out).mono ?_); (case side1 => repeat (first | (with_reducible first | exact HI254.out | apply IsS67.alloc | apply IsS67.drewN | apply IsS67.drew | apply IsS67.set_0 | apply IsS67.set_1 | apply IsS67.set_2 | apply IsS67.set_3 | apply IsS67.set_4) | exact HI254.out)); (case side2 => repeat (first | (with_reducible first | exact HB.out | apply below_alloc | apply pw_below_drewN | apply below_drew1 | refine below_set ?_ (IsS67.ge HI254.out)) | exact HB.out)); rintro e w67 ⟨rfl, hi, hb, hk⟩; have n0_ := Aside0.mk (hb); have n1_ := Aside0.mk (hi); clear HB; clear HI254; have HB := n0_; have HI254 := n1_; clear n0_ n1_; (try clear hb); (try clear hb2); (try clear hk); (try clear hi)))
                                go_ret
                                exact ⟨by first | rfl | (simp [errW_none, errW_some] <;> rfl) | (simp [*, errW_none, errW_some] <;> rfl), by repeat (first | (with_reducible first | exact HB.out | apply below_alloc | apply pw_below_drewN | apply below_drew1 | refine below_set ?_ (IsS67.ge HI254.out)) | exact HB.out)⟩
                          · rw [if_neg c41] at H
                            have c41b0 : decide (0 < t265) = false := decide_eq_false c41
                            clear c41
                            have H' := Aside0.mk H
                            clear H
                            go_wp2_with (first | (go_at_call 12; (with_reducible refine (peer_Peer_Heard.calls kj11 g254 x255000_11 x255001_11 x255002_11 x255003_11 x255004_11 a1 false t292 t293 t294 t295 t296 w _ ?side1 ?side2 A38.out).mono ?_); (case side1 => repeat (first | (with_reducible first | exact HI254.out | apply IsS67.alloc | apply IsS67.drewN | apply IsS67.drew | apply IsS67.set_0 | apply IsS67.set_1 | apply IsS67.set_2 | apply IsS67.set_3 | apply IsS67.set_4) | exact HI254.out)); (case side2 => repeat (first | (with_reducible first | exact HB.out | apply below_alloc | apply pw_below_drewN | apply below_drew1 | refine below_set ?_ (IsS67.ge HI254.out)) | exact HB.out)); rintro e w68 ⟨rfl, hi, hb, hk⟩; have n0_ := Aside0.mk (hb); have n1_ := Aside0.mk (hi); clear HB; clear HI254; have HB := n0_; have HI254 := n1_; clear n0_ n1_; (try clear hb); (try clear hb2); (try clear hk); (try clear hi)))
                            go_roundg kj11
                            case measure => have := HK1.out; have := HJ4.out; have := HJ11.out; omega
                            case rel => exact ⟨(wrap64 (x6_1 + 1)), (t292), (t293), (t294), (t295), (t296), (by first | rfl | (simp; done) | (simp [*]; done)), H', ⟨by have := HK1.out; have := HJ4.out; have := HJ11.out; omega⟩, ⟨by repeat (first | (with_reducible first | exact HI254.out | apply IsS67.alloc | apply IsS67.drewN | apply IsS67.drew | apply IsS67.set_0 | apply IsS67.set_1 | apply IsS67.set_2 | apply IsS67.set_3 | apply IsS67.set_4) | exact HI254.out)⟩, ⟨by repeat (first | (with_reducible first | exact HB.out | apply below_alloc | apply pw_below_drewN | apply below_drew1 | refine below_set ?_ (IsS67.ge HI254.out)) | exact HB.out)⟩⟩
                      · rw [if_neg c37] at H
                        have c37b0 : decide (t265 < a1) = false := decide_eq_false c37
                        clear c37
                        by_cases c69 : t265 > 0
                        · rw [if_pos c69] at H
                          have c69b0 : decide (0 < t265) = true := decide_eq_true c69
                          clear c69
                          by_cases c70 : a1 ≤ t265
                          · rw [if_pos c70] at H
                            have c70b0 : decide (a1 ≤ t265) = true := decide_eq_true c70
                            clear c70
                            by_cases c71 : (IntKind.u64.wrap (t265 - a1)) ≥ 64
                            · rw [if_pos c71] at H
                              have c71b0 : decide (64 ≤ (IntKind.u64.wrap (t265 - a1))) = true := decide_eq_true c71
                              clear c71
                              replace H := Option.bind_eq_some_iff.mp H
                              obtain ⟨⟨t321, t322, t323, t324, t325, t326⟩, A720, H⟩ := H
                              replace H : (if t321 = true then ((peer_Peer_Heard.f kj11 t322 t323 t324 t325 t326 t265).bind fun bt327 => (if bt327.1 = true then (longlinelaw11_PeerWindow.l0 kj11 l0 a1 (wrap64 (x6_1 + 1)) bt327.2.1 bt327.2.2.1 bt327.2.2.2.1 bt327.2.2.2.2.1 bt327.2.2.2.2.2) else (some false))) else (some false)) = some r := H
                              have A72 := Aside0.mk A720
                              clear A720
                              by_cases c73 : t321 = true
                              · subst c73
                                have H1 : ((peer_Peer_Heard.f kj11 t322 t323 t324 t325 t326 t265).bind fun bt327 => (if bt327.1 = true then (longlinelaw11_PeerWindow.l0 kj11 l0 a1 (wrap64 (x6_1 + 1)) bt327.2.1 bt327.2.2.1 bt327.2.2.2.1 bt327.2.2.2.2.1 bt327.2.2.2.2.2) else (some false))) = some r := by rw [if_pos rfl] at H; exact H
                                clear H
                                have H := H1
                                clear H1
                                replace H := Option.bind_eq_some_iff.mp H
                                obtain ⟨⟨t327, t328, t329, t330, t331, t332⟩, A740, H⟩ := H
                                replace H : (if t327 = true then (longlinelaw11_PeerWindow.l0 kj11 l0 a1 (wrap64 (x6_1 + 1)) t328 t329 t330 t331 t332) else (some false)) = some r := H
                                have A74 := Aside0.mk A740
                                clear A740
                                by_cases c75 : t327 = true
                                · subst c75
                                  have H1 : (longlinelaw11_PeerWindow.l0 kj11 l0 a1 (wrap64 (x6_1 + 1)) t328 t329 t330 t331 t332) = some r := by rw [if_pos rfl] at H; exact H
                                  clear H
                                  have H := H1
                                  clear H1
                                  have H' := Aside0.mk H
                                  clear H
                                  go_wp2_with (first | (go_at_call 12; (with_reducible refine (peer_Peer_Heard.calls kj11 g254 x255000_11 x255001_11 x255002_11 x255003_11 x255004_11 a1 true t322 t323 t324 t325 t326 w _ ?side1 ?side2 A72.out).mono ?_); (case side1 => repeat (first | (with_reducible first | exact HI254.out | apply IsS67.alloc | apply IsS67.drewN | apply IsS67.drew | apply IsS67.set_0 | apply IsS67.set_1 | apply IsS67.set_2 | apply IsS67.set_3 | apply IsS67.set_4) | exact HI254.out)); (case side2 => repeat (first | (with_reducible first | exact HB.out | apply below_alloc | apply pw_below_drewN | apply below_drew1 | refine below_set ?_ (IsS67.ge HI254.out)) | exact HB.out)); rintro e w76 ⟨rfl, hi, hb, hk⟩; have n0_ := Aside0.mk (hb); have n1_ := Aside0.mk (hi); clear HB; clear HI254; have HB := n0_; have HI254 := n1_; clear n0_ n1_; (try clear hb); (try clear hb2); (try clear hk); (try clear hi)) | (go_at_call 12; (with_reducible refine (peer_Peer_Heard.calls kj11 g254 t322 t323 t324 t325 t326 t265 true t328 t329 t330 t331 t332 w _ ?side1 ?side2 A74.out).mono ?_); (case side1 => repeat (first | (with_reducible first | exact HI254.out | apply IsS67.alloc | apply IsS67.drewN | apply IsS67.drew | apply IsS67.set_0 | apply IsS67.set_1 | apply IsS67.set_2 | apply IsS67.set_3 | apply IsS67.set_4) | exact HI254.out)); (case side2 => repeat (first | (with_reducible first | exact HB.out | apply below_alloc | apply pw_below_drewN | apply below_drew1 | refine below_set ?_ (IsS67.ge HI254.out)) | exact HB.out)); rintro e w77 ⟨rfl, hi, hb, hk⟩; have n0_ := Aside0.mk (hb); have n1_ := Aside0.mk (hi); clear HB; clear HI254; have HB := n0_; have HI254 := n1_; clear n0_ n1_; (try clear hb); (try clear hb2); (try clear hk); (try clear hi)))
                                  go_roundg kj11
                                  case measure => have := HK1.out; have := HJ4.out; have := HJ11.out; omega
                                  case rel => exact ⟨(wrap64 (x6_1 + 1)), (t328), (t329), (t330), (t331), (t332), (by first | rfl | (simp; done) | (simp [*]; done)), H', ⟨by have := HK1.out; have := HJ4.out; have := HJ11.out; omega⟩, ⟨by repeat (first | (with_reducible first | exact HI254.out | apply IsS67.alloc | apply IsS67.drewN | apply IsS67.drew | apply IsS67.set_0 | apply IsS67.set_1 | apply IsS67.set_2 | apply IsS67.set_3 | apply IsS67.set_4) | exact HI254.out)⟩, ⟨by repeat (first | (with_reducible first | exact HB.out | apply below_alloc | apply pw_below_drewN | apply below_drew1 | refine below_set ?_ (IsS67.ge HI254.out)) | exact HB.out)⟩⟩
                                · replace c75 := Bool.eq_false_iff.mpr c75
                                  subst c75
                                  have H1 : (some false) = some r := by rw [if_neg (show ¬ (false = true) by decide)] at H; exact H
                                  clear H
                                  have H := H1
                                  clear H1
                                  obtain rfl := Option.some.inj H
                                  go_wp2_with (first | (go_at_call 12; (with_reducible refine (peer_Peer_Heard.calls kj11 g254 x255000_11 x255001_11 x255002_11 x255003_11 x255004_11 a1 true t322 t323 t324 t325 t326 w _ ?side1 ?side2 A72.out).mono ?_); (case side1 => repeat (first | (with_reducible first | exact HI254.out | apply IsS67.alloc | apply IsS67.drewN | apply IsS67.drew | apply IsS67.set_0 | apply IsS67.set_1 | apply IsS67.set_2 | apply IsS67.set_3 | apply IsS67.set_4) | exact HI254.out)); (case side2 => repeat (first | (with_reducible first | exact HB.out | apply below_alloc | apply pw_below_drewN | apply below_drew1 | refine below_set ?_ (IsS67.ge HI254.out)) | exact HB.out)); rintro e w78 ⟨rfl, hi, hb, hk⟩; have n0_ := Aside0.mk (hb); have n1_ := Aside0.mk (hi); clear HB; clear HI254; have HB := n0_; have HI254 := n1_; clear n0_ n1_; (try clear hb); (try clear hb2); (try clear hk); (try clear hi)) | (go_at_call 12; (with_reducible refine (peer_Peer_Heard.calls kj11 g254 t322 t323 t324 t325 t326 t265 false t328 t329 t330 t331 t332 w _ ?side1 ?side2 A74.out).mono ?_); (case side1 => repeat (first | (with_reducible first | exact HI254.out | apply IsS67.alloc | apply IsS67.drewN | apply IsS67.drew | apply IsS67.set_0 | apply IsS67.set_1 | apply IsS67.set_2 | apply IsS67.set_3 | apply IsS67.set_4) | exact HI254.out)); (case side2 => repeat (first | (with_reducible first | exact HB.out | apply below_alloc | apply pw_below_drewN | apply below_drew1 | refine below_set ?_ (IsS67.ge HI254.out)) | exact HB.out)); rintro e w79 ⟨rfl, hi, hb, hk⟩; have n0_ := Aside0.mk (hb); have n1_ := Aside0.mk (hi); clear HB; clear HI254; have HB := n0_; have HI254 := n1_; clear n0_ n1_; (try clear hb); (try clear hb2); (try clear hk); (try clear hi)))
                                  go_ret
                                  exact ⟨by first | rfl | (simp [errW_none, errW_some] <;> rfl) | (simp [*, errW_none, errW_some] <;> rfl), by repeat (first | (with_reducible first | exact HB.out | apply below_alloc | apply pw_below_drewN | apply below_drew1 | refine below_set ?_ (IsS67.ge HI254.out)) | exact HB.out)⟩
                              · replace c73 := Bool.eq_false_iff.mpr c73
                                subst c73
                                have H1 : (some false) = some r := by rw [if_neg (show ¬ (false = true) by decide)] at H; exact H
                                clear H
                                have H := H1
                                clear H1
                                obtain rfl := Option.some.inj H
                                go_wp2_with (first | (go_at_call 12; (with_reducible refine (peer_Peer_Heard.calls kj11 g254 x255000_11 x255001_11 x255002_11 x255003_11 x255004_11 a1 false t322 t323 t324 t325 t326 w _ ?side1 ?side2 A72.out).mono ?_); (case side1 => repeat (first | (with_reducible first | exact HI254.out | apply IsS67.alloc | apply IsS67.drewN | apply IsS67.drew | apply IsS67.set_0 | apply IsS67.set_1 | apply IsS67.set_2 | apply IsS67.set_3 | apply IsS67.set_4) | exact HI254.out)); (case side2 => repeat (first | (with_reducible first | exact HB.out | apply below_alloc | apply pw_below_drewN | apply below_drew1 | refine below_set ?_ (IsS67.ge HI254.out)) | exact HB.out)); rintro e w80 ⟨rfl, hi, hb, hk⟩; have n0_ := Aside0.mk (hb); have n1_ := Aside0.mk (hi); clear HB; clear HI254; have HB := n0_; have HI254 := n1_; clear n0_ n1_; (try clear hb); (try clear hb2); (try clear hk); (try clear hi)))
                                go_ret
                                exact ⟨by first | rfl | (simp [errW_none, errW_some] <;> rfl) | (simp [*, errW_none, errW_some] <;> rfl), by repeat (first | (with_reducible first | exact HB.out | apply below_alloc | apply pw_below_drewN | apply below_drew1 | refine below_set ?_ (IsS67.ge HI254.out)) | exact HB.out)⟩
                            · rw [if_neg c71] at H
                              have c71b0 : decide (64 ≤ (IntKind.u64.wrap (t265 - a1))) = false := decide_eq_false c71
                              clear c71
                              replace H := Option.bind_eq_some_iff.mp H
                              obtain ⟨⟨t333, t334, t335, t336, t337, t338⟩, A810, H⟩ := H
                              replace H : (if t333 = true then (longlinelaw11_PeerWindow.l0 kj11 l0 a1 (wrap64 (x6_1 + 1)) t334 t335 t336 t337 t338) else (some false)) = some r := H
                              have A81 := Aside0.mk A810
                              clear A810
                              by_cases c82 : t333 = true
                              · subst c82
                                have H1 : (longlinelaw11_PeerWindow.l0 kj11 l0 a1 (wrap64 (x6_1 + 1)) t334 t335 t336 t337 t338) = some r := by rw [if_pos rfl] at H; exact H
                                clear H
                                have H := H1
                                clear H1
                                have H' := Aside0.mk H
                                clear H
                                go_wp2_with (first | (go_at_call 12; (with_reducible refine (peer_Peer_Heard.calls kj11 g254 x255000_11 x255001_11 x255002_11 x255003_11 x255004_11 t265 true t334 t335 t336 t337 t338 w _ ?side1 ?side2 A81.out).mono ?_); (case side1 => repeat (first | (with_reducible first | exact HI254.out | apply IsS67.alloc | apply IsS67.drewN | apply IsS67.drew | apply IsS67.set_0 | apply IsS67.set_1 | apply IsS67.set_2 | apply IsS67.set_3 | apply IsS67.set_4) | exact HI254.out)); (case side2 => repeat (first | (with_reducible first | exact HB.out | apply below_alloc | apply pw_below_drewN | apply below_drew1 | refine below_set ?_ (IsS67.ge HI254.out)) | exact HB.out)); rintro e w83 ⟨rfl, hi, hb, hk⟩; have n0_ := Aside0.mk (hb); have n1_ := Aside0.mk (hi); clear HB; clear HI254; have HB := n0_; have HI254 := n1_; clear n0_ n1_; (try clear hb); (try clear hb2); (try clear hk); (try clear hi)))
                                go_roundg kj11
                                case measure => have := HK1.out; have := HJ4.out; have := HJ11.out; omega
                                case rel => exact ⟨(wrap64 (x6_1 + 1)), (t334), (t335), (t336), (t337), (t338), (by first | rfl | (simp; done) | (simp [*]; done)), H', ⟨by have := HK1.out; have := HJ4.out; have := HJ11.out; omega⟩, ⟨by repeat (first | (with_reducible first | exact HI254.out | apply IsS67.alloc | apply IsS67.drewN | apply IsS67.drew | apply IsS67.set_0 | apply IsS67.set_1 | apply IsS67.set_2 | apply IsS67.set_3 | apply IsS67.set_4) | exact HI254.out)⟩, ⟨by repeat (first | (with_reducible first | exact HB.out | apply below_alloc | apply pw_below_drewN | apply below_drew1 | refine below_set ?_ (IsS67.ge HI254.out)) | exact HB.out)⟩⟩
                              · replace c82 := Bool.eq_false_iff.mpr c82
                                subst c82
                                have H1 : (some false) = some r := by rw [if_neg (show ¬ (false = true) by decide)] at H; exact H
                                clear H
                                have H := H1
                                clear H1
                                obtain rfl := Option.some.inj H
                                go_wp2_with (first | (go_at_call 12; (with_reducible refine (peer_Peer_Heard.calls kj11 g254 x255000_11 x255001_11 x255002_11 x255003_11 x255004_11 t265 false t334 t335 t336 t337 t338 w _ ?side1 ?side2 A81.out).mono ?_); (case side1 => repeat (first | (with_reducible first | exact HI254.out | apply IsS67.alloc | apply IsS67.drewN | apply IsS67.drew | apply IsS67.set_0 | apply IsS67.set_1 | apply IsS67.set_2 | apply IsS67.set_3 | apply IsS67.set_4) | exact HI254.out)); (case side2 => repeat (first | (with_reducible first | exact HB.out | apply below_alloc | apply pw_below_drewN | apply below_drew1 | refine below_set ?_ (IsS67.ge HI254.out)) | exact HB.out)); rintro e w84 ⟨rfl, hi, hb, hk⟩; have n0_ := Aside0.mk (hb); have n1_ := Aside0.mk (hi); clear HB; clear HI254; have HB := n0_; have HI254 := n1_; clear n0_ n1_; (try clear hb); (try clear hb2); (try clear hk); (try clear hi)))
                                go_ret
                                exact ⟨by first | rfl | (simp [errW_none, errW_some] <;> rfl) | (simp [*, errW_none, errW_some] <;> rfl), by repeat (first | (with_reducible first | exact HB.out | apply below_alloc | apply pw_below_drewN | apply below_drew1 | refine below_set ?_ (IsS67.ge HI254.out)) | exact HB.out)⟩
                          · rw [if_neg c70] at H
                            have c70b0 : decide (a1 ≤ t265) = false := decide_eq_false c70
                            clear c70
                            replace H := Option.bind_eq_some_iff.mp H
                            obtain ⟨⟨t339, t340, t341, t342, t343, t344⟩, A850, H⟩ := H
                            replace H : (if t339 = true then (longlinelaw11_PeerWindow.l0 kj11 l0 a1 (wrap64 (x6_1 + 1)) t340 t341 t342 t343 t344) else (some false)) = some r := H
                            have A85 := Aside0.mk A850
                            clear A850
                            by_cases c86 : t339 = true
                            · subst c86
                              have H1 : (longlinelaw11_PeerWindow.l0 kj11 l0 a1 (wrap64 (x6_1 + 1)) t340 t341 t342 t343 t344) = some r := by rw [if_pos rfl] at H; exact H
                              clear H
                              have H := H1
                              clear H1
                              have H' := Aside0.mk H
                              clear H
                              go_wp2_with (first | (go_at_call 12; (with_reducible refine (peer_Peer_Heard.calls kj11 g254 x255000_11 x255001_11 x255002_11 x255003_11 x255004_11 t265 true t340 t341 t342 t343 t344 w _ ?side1 ?side2 A85.out).mono ?_); (case side1 => repeat (first | (with_reducible first | exact HI254.out | apply IsS67.alloc | apply IsS67.drewN | apply IsS67.drew | apply IsS67.set_0 | apply IsS67.set_1 | apply IsS67.set_2 | apply IsS67.set_3 | apply IsS67.set_4) | exact HI254.out)); (case side2 => repeat (first | (with_reducible first | exact HB.out | apply below_alloc | apply pw_below_drewN | apply below_drew1 | refine below_set ?_ (IsS67.ge HI254.out)) | exact HB.out)); rintro e w87 ⟨rfl, hi, hb, hk⟩; have n0_ := Aside0.mk (hb); have n1_ := Aside0.mk (hi); clear HB; clear HI254; have HB := n0_; have HI254 := n1_; clear n0_ n1_; (try clear hb); (try clear hb2); (try clear hk); (try clear hi)))
                              go_roundg kj11
                              case measure => have := HK1.out; have := HJ4.out; have := HJ11.out; omega
                              case rel => exact ⟨(wrap64 (x6_1 + 1)), (t340), (t341), (t342), (t343), (t344), (by first | rfl | (simp; done) | (simp [*]; done)), H', ⟨by have := HK1.out; have := HJ4.out; have := HJ11.out; omega⟩, ⟨by repeat (first | (with_reducible first | exact HI254.out | apply IsS67.alloc | apply IsS67.drewN | apply IsS67.drew | apply IsS67.set_0 | apply IsS67.set_1 | apply IsS67.set_2 | apply IsS67.set_3 | apply IsS67.set_4) | exact HI254.out)⟩, ⟨by repeat (first | (with_reducible first | exact HB.out | apply below_alloc | apply pw_below_drewN | apply below_drew1 | refine below_set ?_ (IsS67.ge HI254.out)) | exact HB.out)⟩⟩
                            · replace c86 := Bool.eq_false_iff.mpr c86
                              subst c86
                              have H1 : (some false) = some r := by rw [if_neg (show ¬ (false = true) by decide)] at H; exact H
                              clear H
                              have H := H1
                              clear H1
                              obtain rfl := Option.some.inj H
                              go_wp2_with (first | (go_at_call 12; (with_reducible refine (peer_Peer_Heard.calls kj11 g254 x255000_11 x255001_11 x255002_11 x255003_11 x255004_11 t265 false t340 t341 t342 t343 t344 w _ ?side1 ?side2 A85.out).mono ?_); (case side1 => repeat (first | (with_reducible first | exact HI254.out | apply IsS67.alloc | apply IsS67.drewN | apply IsS67.drew | apply IsS67.set_0 | apply IsS67.set_1 | apply IsS67.set_2 | apply IsS67.set_3 | apply IsS67.set_4) | exact HI254.out)); (case side2 => repeat (first | (with_reducible first | exact HB.out | apply below_alloc | apply pw_below_drewN | apply below_drew1 | refine below_set ?_ (IsS67.ge HI254.out)) | exact HB.out)); rintro e w88 ⟨rfl, hi, hb, hk⟩; have n0_ := Aside0.mk (hb); have n1_ := Aside0.mk (hi); clear HB; clear HI254; have HB := n0_; have HI254 := n1_; clear n0_ n1_; (try clear hb); (try clear hb2); (try clear hk); (try clear hi)))
                              go_ret
                              exact ⟨by first | rfl | (simp [errW_none, errW_some] <;> rfl) | (simp [*, errW_none, errW_some] <;> rfl), by repeat (first | (with_reducible first | exact HB.out | apply below_alloc | apply pw_below_drewN | apply below_drew1 | refine below_set ?_ (IsS67.ge HI254.out)) | exact HB.out)⟩
                        · rw [if_neg c69] at H
                          have c69b0 : decide (0 < t265) = false := decide_eq_false c69
                          clear c69
                          have H' := Aside0.mk H
                          clear H
                          go_wp2
                          go_roundg kj11
                          case measure => have := HK1.out; have := HJ4.out; have := HJ11.out; omega
                          case rel => exact ⟨(wrap64 (x6_1 + 1)), (x255000_11), (x255001_11), (x255002_11), (x255003_11), (x255004_11), (by first | rfl | (simp; done) | (simp [*]; done)), H', ⟨by have := HK1.out; have := HJ4.out; have := HJ11.out; omega⟩, ⟨by repeat (first | (with_reducible first | exact HI254.out | apply IsS67.alloc | apply IsS67.drewN | apply IsS67.drew | apply IsS67.set_0 | apply IsS67.set_1 | apply IsS67.set_2 | apply IsS67.set_3 | apply IsS67.set_4) | exact HI254.out)⟩, ⟨by repeat (first | (with_reducible first | exact HB.out | apply below_alloc | apply pw_below_drewN | apply below_drew1 | refine below_set ?_ (IsS67.ge HI254.out)) | exact HB.out)⟩⟩
              · rw [if_neg c9] at H
                exact absurd H (by simp)
            · rw [if_neg c8] at H
              exact absurd H (by simp)
          · replace c7 := Bool.eq_false_iff.mpr c7
            subst c7
            have H1 : ((longlinelaw11_alive.f kj4).bind fun t255 => (some t255)) = some r := by rw [if_neg (show ¬ (false = true) by decide)] at H; exact H
            clear H
            have H := H1
            clear H1
            replace H := Option.bind_eq_some_iff.mp H
            obtain ⟨t255, A890, H⟩ := H
            replace H : (some t255) = some r := H
            have A89 := Aside0.mk A890
            clear A890
            obtain rfl := Option.some.inj H
            go_wp2_with (first | ((with_reducible refine gate_callee (f := 13) rfl ?_); refine goesL_ (some 113) rfl rfl Try.func13 (by kernel_rfl) rfl #[] rfl (by (try simp only [List.map_toArray, List.map_cons, List.map_nil]); first | done | rfl | (simp only [List.length_drop, List.length_take]; rfl)) ?_; (with_reducible refine (longlinelaw11_alive.calls kj4  t255 _ A89.out).mono ?_); rintro e w90 ⟨rfl, hb⟩; refine ⟨_, rfl, ?_⟩; have n0_ := Aside0.mk (IsS67.below (by repeat (first | (with_reducible first | exact HI254.out | apply IsS67.alloc | apply IsS67.drewN | apply IsS67.drew | apply IsS67.set_0 | apply IsS67.set_1 | apply IsS67.set_2 | apply IsS67.set_3 | apply IsS67.set_4) | exact HI254.out)) hb); have n1_ := Aside0.mk (below_step (by repeat (first | (with_reducible first | exact HB.out | apply below_alloc | apply pw_below_drewN | apply below_drew1 | refine below_set ?_ (IsS67.ge HI254.out)) | exact HB.out)) hb); clear HI254; clear HB; have HI254 := n0_; have HB := n1_; clear n0_ n1_; (try clear hb); (try clear hb2); (try clear hk); (try clear hi)))
            go_ret
            exact ⟨by first | rfl | (simp [errW_none, errW_some] <;> rfl) | (simp [*, errW_none, errW_some] <;> rfl), by repeat (first | (with_reducible first | exact HB.out | apply below_alloc | apply pw_below_drewN | apply below_drew1 | refine below_set ?_ (IsS67.ge HI254.out)) | exact HB.out)⟩

/-- THE ONE PURE STATEMENT of longlinelaw11_PeerWindow: yours. -/
def longlinelaw11_PeerWindow.Pure : Prop := ∀ (l0 : List (S32)) (a1 : Int), l0.length ≤ maxLen → l0.length * 16 ≤ 140737488351232 → (∀ x ∈ l0, (Lit.int .u64 x.f0).wf = true ∧ (Lit.int .u32 x.f1).wf = true) → (Lit.int .u64 a1).wf = true → ∃ k, longlinelaw11_PeerWindow.f k l0 a1 = some true
theorem longlinelaw11_PeerWindow.walk (P : longlinelaw11_PeerWindow.Pure) (a0 : Option Addr) (cap0 : Nat) (l0 : List (S32)) (a1 : Int) (w : World) (hr0 : Kd.C k32 w a0 l0.length l0) (hc0 : l0.length ≤ cap0) (hm0 : l0.length ≤ maxLen) (y0 : l0.length * 16 ≤ 140737488351232) (hw0 : (∀ x ∈ l0, (Lit.int .u64 x.f0).wf = true ∧ (Lit.int .u32 x.f1).wf = true)) (w1 : (Lit.int .u64 a1).wf = true) :
    Calls Try.prog 5 #[.slice a0 l0.length cap0, .int .u64 a1] w fun e w' => e = .returned (.bool true) ∧ Below w.heap.size w w' := by
  obtain ⟨k, h⟩ := P l0 a1 hm0 y0 hw0 w1
  refine (longlinelaw11_PeerWindow.calls k _ _ l0 a1 true w hr0 hc0 h).mono ?_
  rintro e w' ⟨rfl, hd⟩
  exact ⟨rfl, hd⟩

end Go.Proofs.Ytgefndjbcabioaa.QPeer
