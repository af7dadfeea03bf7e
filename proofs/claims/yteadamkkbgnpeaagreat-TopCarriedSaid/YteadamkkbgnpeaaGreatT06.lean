/- TopCarried: what the law stands on, part 6. No condition. -/
import Derived.Test.YteadamkkbgnpeaaGreatT05
import Derived.Deep.Matrix
import Derived.KernelRfl
import Derived.Laws.BitsAllLaws
import Derived.Lib.SlBytesConst
import Derived.OpenShut
import Derived.StillTailTactics
section OfJ9
set_option linter.unusedVariables false
set_option linter.unusedSimpArgs false
namespace Go.Proofs.YteadamkkbgnpeaaGreat.J
open Go.RowKit Go.ChangeMaps YteadamkkbgnpeaaGreatW.PrintLast F M A B S QTC YteadamkkbgnpeaaGreatW.PrintWords YteadamkkbgnpeaaGreatW.PrintMore
/-- A part in a block of its own. -/
def PBox (w : World) (gp : Nat) (id : Int) (i n : Nat) (A : Option Addr) (L c : Nat) : Prop := w.heap[gp]? = some (.cells #[.int .u64 id, .int .i64 (i : Int), .int .i64 (n : Int), .slice A L c] 60 (0, 0))
theorem PBox.range {w : World} {gp i n L c : Nat} {id : Int} {A : Option Addr} (h : PBox w gp id i n A L c) : w.rangeAt gp 0 [.int .u64 id, .int .i64 (i : Int), .int .i64 (n : Int), .slice A L c] := fun k u hu => by
 rw [Nat.zero_add, blk_cell h]
 simpa using hu
theorem join_n {g : Frs} {id : Int} {n b : Nat} (hW : Whole id (g id).length (g id)) (hn : (g id).length = n) (w : World) (hP : PRow w b 65 id (g id).length (g id)) :
  Calls Tryz.prog 43 #[.slice (some ⟨b, 65, none⟩) n 64] w fun e w' => ∃ v, e = .returned (.tuple #[v, .int .i64 0]) ∧ (Kd.int .u8).R 5 w' w.heap.size (fun _ => True) v (g id).flatten ∧ Below w.heap.size w w' := by
 have h := join_calls id (g id).length (g id) hW b 65 64 (by have := hW.n1; omega) w hP
 rw [hn] at h
 exact h
/-- What Put tells. -/
structure PutPost (g : Frs) (N0 : Nat) (w w' : World) (gt gm : Nat) (fl : Int) (T : List Op) (id : Int) (v : Value) (told : Bool) (er fl' : Int) (T' : List Op) (clock' : Nat) : Prop where
 st : TabSt g N0 w' gt gm fl' T' clock'
 fr : Fr w w' (Foot N0 w)
 ids : ∀ x ∈ T', x.id = id ∨ ∃ y ∈ T, y.id = x.id
 fl1 : fl ≤ fl'
 fl2 : fl' = fl ∨ fl' = id + 1 ∨ ∃ y ∈ T, fl' = y.id + 1
 yes : told = true → er = 0 ∧ fl ≤ id ∧ fl' = id + 1 ∧ Byt w.heap.size w' v (g id).flatten
 sure : (g id).length = 1 → fl ≤ id → (∀ y ∈ T, y.id < id) → told = true
def PutOut (g : Frs) (N0 : Nat) (w : World) (gt gm : Nat) (fl : Int) (T : List Op) (id : Int) (e : Ending) (w' : World) : Prop :=
 ∃ v told er fl' T' clock', e = .returned (.tuple #[v, .bool told, .int .i64 er]) ∧ PutPost g N0 w w' gt gm fl T id v told er fl' T' clock'
/-- What is known of the open frames, and the floor, once there is room. -/
structure HeadF (T Tt : List Op) (fl flt id : Int) : Prop where
 ids : ∀ z ∈ Tt, z.id = id ∨ ∃ y ∈ T, y.id = z.id
 le1 : fl ≤ flt
 le2 : flt ≤ id
 from_ : flt = fl ∨ ∃ y ∈ T, flt = y.id + 1
/-- The walk's state in Put. -/
structure PS (g : Frs) (N0 : Nat) (w wr : World) (gt gm : Nat) (fl : Int) (T : List Op) (clock gp : Nat) (id : Int) (i n : Nat) (A : Option Addr) (L c : Nat) : Prop where
 st : TabSt g N0 wr gt gm fl T clock
 p : PBox wr gp id i n A L c
 fr : Fr w wr (Foot N0 w)
 new : w.heap.size ≤ gp
 row : Byt 0 wr (.slice A L c) ((g id).getD i [])
section
variable {g : Frs} {N0 : Nat} {w wr w1 : World} {gt gm clock gp i n L c : Nat} {fl id : Int} {T : List Op} {A : Option Addr}
theorem PS.below (h : PS g N0 w wr gt gm fl T clock gp id i n A L c) (k : Below wr.heap.size wr w1) : PS g N0 w w1 gt gm fl T clock gp id i n A L c :=
 ⟨h.st.below k, (k.block gp (blk_lt h.p)).trans h.p, h.fr.then_below k, h.new, h.row.below k⟩
theorem PS.drewN (h : PS g N0 w wr gt gm fl T clock gp id i n A L c) (m : Nat) : PS g N0 w (wr.drewN m) gt gm fl T clock gp id i n A L c := h.below (pw_below_drewN (Below.refl _ _) m)
theorem PS.C (h : PS g N0 w wr gt gm fl T clock gp id i n A L c) : L = ((g id).getD i []).length ∧ L ≤ c ∧ (Kd.int .u8).C wr A ((g id).getD i []).length ((g id).getD i []) := by
 obtain ⟨A', c', e, h1, h2, _⟩ := h.row.out
 injection e with e1 e2 e3
 subst e1 e2 e3
 exact ⟨rfl, h1, h2⟩
/-- A frame's own part is no table's. -/
theorem PBox.not_foot (h : PBox wr gp id i n A L c) : ¬ Foot N0 wr gp := fun e => by have := e.2.not h; rcases this with h | h <;> exact absurd h (by decide)
theorem foot_back {S : Nat → Prop} (f : Fr w wr (Foot N0 w)) (hN : N0 ≤ w.heap.size) {k : Nat} (h : Foot N0 wr k) : Foot N0 w k ∨ w.heap.size ≤ k := by
 rcases Nat.lt_or_ge k w.heap.size with hk | hk
 ·rcases Classical.em (Foot N0 w k) with h1 | h1
  ·exact .inl h1
  ·refine .inl ⟨h.1, ?_⟩
   have := f.block k hk h1
   rcases h.2 with ⟨cs, t, fr, e, ht⟩ | ⟨es, c, e⟩
   ·exact .inl ⟨cs, t, fr, by rw [← this]; exact e, ht⟩
   ·exact .inr ⟨es, c, by rw [← this]; exact e⟩
 ·exact .inr hk
/-- The table alone changed. -/
theorem PS.step (h : PS g N0 w wr gt gm fl T clock gp id i n A L c) (hN : N0 ≤ w.heap.size) {fl' : Int} {T' : List Op} {clock' : Nat} (f : Fr wr w1 (Foot N0 wr)) (st : TabSt g N0 w1 gt gm fl' T' clock') : PS g N0 w w1 gt gm fl' T' clock' gp id i n A L c :=
 ⟨st, f.blk h.p h.p.not_foot, h.fr.trans f (fun k hk => foot_back (S := fun _ => False) h.fr hN hk), h.new, h.row.fr f (fun k hk => hk.2.not5)⟩
theorem PS.far (h : PS g N0 w wr gt gm fl T clock gp id i n A L c) {k0 : Nat} {cs : Array Value} {fr : Nat × Nat} (hk : wr.heap[k0]? = some (.cells cs 60 fr)) (f : Fr wr w1 (fun k => k = k0)) (hne : k0 ≠ gp) (hn : w.heap.size ≤ k0) : PS g N0 w w1 gt gm fl T clock gp id i n A L c := by
 have h1 : ∀ k, k = k0 → ¬ Foot N0 wr k ∧ ¬ T5 wr k := by
  rintro k rfl
  exact ⟨fun e => by have := e.2.not hk; rcases this with h | h <;> exact absurd h (by decide), T5.not hk (by decide)⟩
 exact ⟨h.st.fr f h1, f.blk h.p (fun e => hne e.symm), h.fr.trans f (fun k e => .inr (by rw [e]; exact hn)), h.new, h.row.fr f (fun k e => (h1 k e).2)⟩
theorem TabSt.roomed (h : TabSt g N0 w gt gm fl T clock) {ok : Bool} {fl' : Int} {E' : List En} (hp : RoomPost w w1 gt gm fl (T.map Op.en) clock id ok fl' E') : ∃ T', E' = T'.map Op.en ∧ TabSt g N0 w1 gt gm fl' T' clock ∧ Fr w w1 (Foot N0 w) ∧ (∀ x ∈ T', x ∈ T) ∧ fl ≤ fl' ∧ (fl' = fl ∨ ∃ y ∈ T, fl' = y.id + 1 ∧ y.id ≤ id) := by
 have f5 : ∀ k, (k = gt ∨ k = gm) → ¬ T5 w k := by
  rintro k (rfl | rfl)
  ·exact h.foot_t.2.not5
  ·exact h.foot_m.2.not5
 rcases hp.as_ with ⟨rfl, rfl⟩ | ⟨y, hy, rfl, rfl, hle⟩
 ·refine ⟨T, rfl, ?_, Fr.foot h hp.fr, fun _ h => h, Int.le_refl _, .inl rfl⟩
  have h2 := h.less (p := fun _ => true) (fl' := fl') (by rw [List.filter_eq_self.mpr (fun _ _ => rfl)]; exact hp.tab) hp.fr (fun x hx _ => h.low x hx)
  rw [List.filter_eq_self.mpr (fun _ _ => rfl)] at h2
  exact h2
 ·obtain ⟨x, hx, rfl⟩ := List.mem_map.mp hy
  refine ⟨_, map_filter_en T _, h.raise (fl' := x.id + 1) hp.tab hp.fr, Fr.foot h hp.fr, fun z hz => (List.mem_filter.mp hz).1, ?_, .inr ⟨x, hx, rfl, hle⟩⟩
  have := h.low x hx
  show fl ≤ x.id + 1
  omega
end
section
variable {ops : Array Oper} {rest : List Oper} {o : Oper} {a : Act} {Q : Exit → Act → World → Prop} {W : World}
theorem update_v {x y z : Operand} {gm clock b : Nat} {E : List En} {id : Int} (hgd : o.guard = none) (ho : o.op = .mapUpdate 89 x y z) (hx : a.eval x = .map (some gm)) (hy : a.eval y = .int .u64 id) (hz : a.eval z = .pointer (some ⟨b, 0, none⟩)) (hb : MapAt W gm E clock) (hn : ∀ x ∈ E, x.id ≠ id) (hd : o.dst = none)
  (k : wpList Tryz.prog ops Q rest a (setBlock W gm (.map ((E ++ [(⟨id, b, clock⟩ : En)]).map En.e).toArray (clock + 1)))) : wpList Tryz.prog ops Q (o :: rest) a W := by
 refine wpList_plain hgd fun K hK => ?_
 unfold Oper.wp execOp
 simp only [ho, hx, hy, hz]
 simp only [Sem.run_bind, Sem.run_pure, update_run hb id b hn, Result.andThen_ok]
 refine hK _ _ ?_
 rw [hd]
 exact k
end
def J_put.T24 : Bool × List (List Nat × List Nat) := (true, [([], []), ([0], [0]), ([1], [1]), ([], []), ([3], [3]), ([4], [4]), ([5], [5]), ([2, 6], [2, 6]), ([7], [7]), ([8], [8]), ([9], [9]), ([9], [9]), ([10, 8, 0, 1, 2, 3, 4, 5, 6, 7, 8, 9, 10], [10]), ([11, 12, 0, 1, 2, 3, 4, 5, 6, 7, 8, 9, 10, 11, 12], [11])])
def J_put.B24 : List Nat := [0, 1, 3, 0, 8, 24, 56, 127, 255, 511, 1023, 1023, 2047, 8191]
theorem J_put.tab24 : rtab .any (opsOf Tryz.f22 24) = J_put.T24 := by kernel_rfl
theorem J_put.bits24 : waitsOk J_put.T24.2 J_put.B24 = true := by kernel_rfl
def J_put.T20 : Bool × List (List Nat × List Nat) := (true, [([], []), ([], []), ([1], [1]), ([], []), ([], []), ([4], [4]), ([], []), ([0], [0]), ([7], [7]), ([8, 2, 0, 1, 2], [2, 8]), ([9, 0, 1, 2], [9]), ([3], [3]), ([11], [11]), ([12, 5, 0, 1, 2, 3, 4, 5, 6, 7, 8, 9, 10], [5, 12]), ([13, 6, 10, 0, 1, 2, 3, 4, 5, 6, 7, 8, 9, 10], [6, 13])])
def J_put.B20 : List Nat := [0, 0, 2, 0, 0, 16, 0, 1, 129, 391, 903, 8, 2056, 8191, 16383]
theorem J_put.tab20 : rtab .any (opsOf Tryz.f22 20) = J_put.T20 := by kernel_rfl
theorem J_put.bits20 : waitsOk J_put.T20.2 J_put.B20 = true := by kernel_rfl
set_option maxHeartbeats 4000000 in
set_option maxRecDepth 100000 in
theorem put_calls (g : Frs) (N0 gt gm : Nat) (fl : Int) (T : List Op) (clock : Nat) (id : Int) (i : Nat) (hW : Whole id (g id).length (g id)) (hi : i < (g id).length) (A : Option Addr) (c n L : Nat) (hn : (g id).length = n) (hL : ((g id).getD i []).length = L) (w : World) (h : TabSt g N0 w gt gm fl T clock) (hN : N0 ≤ w.heap.size) (hC : Byt 0 w (.slice A L c) ((g id).getD i [])) :
  Calls Tryz.prog 22 #[.pointer (some ⟨gt, 0, none⟩), .agg #[.int .u64 id, .int .i64 (i : Int), .int .i64 (n : Int), .slice A L c]] w fun e w' => PutOut g N0 w gt gm fl T id e w' := by
 have HW := Aside0.mk hW
 have HI := Aside0.mk (And.intro hi hN)
 have HL := Aside0.mk (And.intro hL hC)
 have HP := Aside0.mk (show pOk id (i : Int) (n : Int) ((g id).getD i []) from by rw [← hn]; exact hW.ok i hi)
 have HT := Aside0.mk h
 have HN := Aside0.mk hn
 clear hW hi hL hC h hN hn
 by_cases c0 : id < fl
 ·go_enter Tryz.func22, Tryz.ntmps22
  go_wp2_with (first
   | ((with_reducible refine gate_dst (N := 3) rfl ?_); refine box_v rfl rfl rfl ?_; intro gp hg w1 hb hw; have HX1 : Aside0 (PS g N0 w w1 gt gm fl T clock gp id i n A L c) := ⟨⟨HT.out.below hw, hb, Fr.of_below hw _, by rw [hg]; exact Nat.le_refl _, HL.out.2.below hw⟩⟩; clear hb hw hg; have hq0 := cell_0 HX1.out.p; have hq1 := cell_1 HX1.out.p; have hq2 := cell_2 HX1.out.p; have hq3 := cell_3 HX1.out.p; have ht0 := HX1.out.st.tab.c0; have ht1 := HX1.out.st.tab.c1)
   | (go_at_call 41; refine (made_calls gt gm fl _ clock _ HX1.out.st.tab).mono ?_; rintro e w2 ⟨rfl, hw2⟩; have hw2 := hw2.symm; subst hw2)
   | ((with_reducible refine gate_dst (N := 17) rfl ?_); refine wpList_load_mid rfl 60 (.tmp 3) rfl gp 0 rfl [.int .u64 id, .int .i64 (i : Int), .int .i64 (n : Int), .slice A L c] _ HX1.out.p.range Tryz.underlying60 rfl size60 ?_)
   | (go_at_call 32; refine (right_calls id (i : Int) (n : Int) A c L HX1.out.C.1.symm HX1.out.C.2.1 HP.out _ HX1.out.C.2.2).mono ?_; rintro e w2 ⟨rfl, hw⟩; have HX2 := Aside0.mk (HX1.out.below hw); clear hw; have hq0 := cell_0 HX2.out.p; have hq1 := cell_1 HX2.out.p; have hq2 := cell_2 HX2.out.p; have hq3 := cell_3 HX2.out.p; have ht0 := HX2.out.st.tab.c0; have ht1 := HX2.out.st.tab.c1))
  go_quiet (fail)
  have HX3 := Aside0.mk (HX2.out.drewN nq)
  generalize w2.drewN nq = w3 at HX3 ⊢
  have hq0 := cell_0 HX3.out.p; have hq1 := cell_1 HX3.out.p; have hq2 := cell_2 HX3.out.p; have hq3 := cell_3 HX3.out.p; have ht0 := HX3.out.st.tab.c0; have ht1 := HX3.out.st.tab.c1
  go_wp2
  go_ret3
  exact ⟨_, false, _, fl, T, clock, rfl, HX3.out.st, HX3.out.fr, fun x hx => .inr ⟨x, hx, rfl⟩, Int.le_refl _, .inl rfl, (fun e => by cases e), fun _ e => by omega⟩
 ·rcases pos_spec (id := id) (E := T.map Op.en) (i := 0) with ⟨hp, hne⟩ | ⟨j, xe, hp, hj, hxid⟩
  ·have HNE := Aside0.mk hne
   have HID : Aside0 (∀ x ∈ T.map Op.en, 0 ≤ x.id ∧ x.id ≤ 1000000) := ⟨fun x hx => by obtain ⟨y, hy, rfl⟩ := List.mem_map.mp hx; have := ((HT.out.ok y hy).ok 0 (by have := (HT.out.ok y hy).n1; omega)).1; show 0 ≤ y.id ∧ y.id ≤ 1000000; omega⟩
   clear hne
   go_enter Tryz.func22, Tryz.ntmps22
   go_wp2_with (first
    | ((with_reducible refine gate_dst (N := 3) rfl ?_); refine box_v rfl rfl rfl ?_; intro gp hg w1 hb hw; have HX1 : Aside0 (PS g N0 w w1 gt gm fl T clock gp id i n A L c) := ⟨⟨HT.out.below hw, hb, Fr.of_below hw _, by rw [hg]; exact Nat.le_refl _, HL.out.2.below hw⟩⟩; clear hb hw hg; have hq0 := cell_0 HX1.out.p; have hq1 := cell_1 HX1.out.p; have hq2 := cell_2 HX1.out.p; have hq3 := cell_3 HX1.out.p; have ht0 := HX1.out.st.tab.c0; have ht1 := HX1.out.st.tab.c1)
    | (go_at_call 41; refine (made_calls gt gm fl _ clock _ HX1.out.st.tab).mono ?_; rintro e w2 ⟨rfl, hw2⟩; have hw2 := hw2.symm; subst hw2)
    | ((with_reducible refine gate_dst (N := 17) rfl ?_); refine wpList_load_mid rfl 60 (.tmp 3) rfl gp 0 rfl [.int .u64 id, .int .i64 (i : Int), .int .i64 (n : Int), .slice A L c] _ HX1.out.p.range Tryz.underlying60 rfl size60 ?_)
    | (go_at_call 32; refine (right_calls id (i : Int) (n : Int) A c L HX1.out.C.1.symm HX1.out.C.2.1 HP.out _ HX1.out.C.2.2).mono ?_; rintro e w2 ⟨rfl, hw⟩; have HX2 := Aside0.mk (HX1.out.below hw); clear hw; have hq0 := cell_0 HX2.out.p; have hq1 := cell_1 HX2.out.p; have hq2 := cell_2 HX2.out.p; have hq3 := cell_3 HX2.out.p; have ht0 := HX2.out.st.tab.c0; have ht1 := HX2.out.st.tab.c1))
   go_quiet (fail)
   have HX3 := Aside0.mk (HX2.out.drewN nq)
   generalize w2.drewN nq = w3 at HX3 ⊢
   have hq0 := cell_0 HX3.out.p; have hq1 := cell_1 HX3.out.p; have hq2 := cell_2 HX3.out.p; have hq3 := cell_3 HX3.out.p; have ht0 := HX3.out.st.tab.c0; have ht1 := HX3.out.st.tab.c1
   go_wp2
   have hk : ∀ n : Nat, (Instr.lookup 89 (.map (some gm)) (.int .u64 id) false).run Tryz.prog (w3.drewN n) = .ok (.pointer none) (w3.drewN n) := fun n => by have := look_run (HX3.out.drewN n).st.tab.m id; rw [hp] at this; exact this
   go_quiet (fail)
   have HX4 := Aside0.mk (HX3.out.drewN nq)
   generalize w3.drewN nq = w4 at HX4 ⊢
   clear hk
   have hq0 := cell_0 HX4.out.p; have hq1 := cell_1 HX4.out.p; have hq2 := cell_2 HX4.out.p; have hq3 := cell_3 HX4.out.p; have ht0 := HX4.out.st.tab.c0; have ht1 := HX4.out.st.tab.c1
   go_wp2_with (first
    | (go_at_call 42; refine (room_calls gt gm fl (T.map Op.en) clock (by rw [List.length_map]; exact HX4.out.st.few) HID.out id _ HX4.out.st.tab).mono ?_; rintro e w5 ⟨ok, fl5, E5, rfl, hr⟩; obtain ⟨T5_, rfl, hst, hfr, hsub, hle, hfl⟩ := HX4.out.st.roomed hr; have HX5 := Aside0.mk (HX4.out.step HI.out.2 hfr hst); have HR5 : Aside0 ((∀ x ∈ T5_, x ∈ T) ∧ fl ≤ fl5 ∧ (fl5 = fl ∨ ∃ y ∈ T, fl5 = y.id + 1 ∧ y.id ≤ id) ∧ (ok = true → T5_.length < 4) ∧ (ok = false → ∃ y ∈ T, id < y.id)) := ⟨hsub, hle, hfl, fun e => by have := hr.room e; rwa [List.length_map] at this, fun e => by obtain ⟨y, hy, hlt⟩ := hr.old e; obtain ⟨x, hx, rfl⟩ := List.mem_map.mp hy; exact ⟨x, hx, hlt⟩⟩; clear hr hst hfr hsub hle hfl; obtain ⟨z, hz⟩ : ∃ z : Int, (if ok = true then (0 : Int) else 5) = z := ⟨_, rfl⟩; rw [hz]; have HZ := Aside0.mk hz; clear hz; have hq0 := cell_0 HX5.out.p; have hq1 := cell_1 HX5.out.p; have hq2 := cell_2 HX5.out.p; have hq3 := cell_3 HX5.out.p; have ht0 := HX5.out.st.tab.c0; have ht1 := HX5.out.st.tab.c1)
    | ((with_reducible refine gate_dst (N := 49) rfl ?_); refine Kd.event_run rfl (v := .agg (newC (n : Int)).toArray) (w1 := w5) ?hr ?_; (case hr => kernel_rfl))
    | ((with_reducible refine gate_dst (N := 50) rfl ?_); refine box_v rfl rfl rfl ?_; intro gb hg w6 hb hw; have HX6 := Aside0.mk (HX5.out.below hw); have HB6 : Aside0 (w6.heap[gb]? = some (.cells (newC (n : Int)).toArray 113 (0, 0)) ∧ w5.heap.size ≤ gb) := ⟨hb, by rw [hg]; exact Nat.le_refl _⟩; clear hb hw hg; have hq0 := cell_0 HX6.out.p; have hq1 := cell_1 HX6.out.p; have hq2 := cell_2 HX6.out.p; have hq3 := cell_3 HX6.out.p; have ht0 := HX6.out.st.tab.c0; have ht1 := HX6.out.st.tab.c1))
   ·rename_i hz0
    go_ret3
    have hno : ok = false := by
     cases ok with
     | false => rfl
     | true => rw [show z = 0 from HZ.out.symm] at hz0; exact absurd hz0 (by decide)
    obtain ⟨y, hy, hlt⟩ := HR5.out.2.2.2.2 hno
    exact ⟨_, false, _, fl5, T5_, clock, rfl, HX5.out.st, HX5.out.fr, fun x hx => .inr ⟨x, HR5.out.1 x hx, rfl⟩, HR5.out.2.1, HR5.out.2.2.1.elim .inl (fun ⟨y, hy, e, _⟩ => .inr (.inr ⟨y, hy, e⟩)), (fun e => by cases e), fun _ _ hall => by have := hall y hy; omega⟩
   ·rename_i hz0
    go_still_tail 7, (by kernel_rfl)
    have HX6D := Aside0.mk (HX6.out.below (below_drew (Below.refl _ _)))
    have HB6D : Aside0 (w6.drew.heap[gb]? = some (.cells (newC (n : Int)).toArray 113 (0, 0))) := ⟨HB6.out.1⟩
    change wpList _ _ _ _ _ w6.drew
    generalize w6.drew = w7 at HX6D HB6D ⊢
    have HNE5 : Aside0 (∀ x ∈ T5_.map Op.en, x.id ≠ id) := ⟨fun x hx => by obtain ⟨y, hy, rfl⟩ := List.mem_map.mp hx; exact HNE.out _ (List.mem_map.mpr ⟨y, HR5.out.1 y hy, rfl⟩)⟩
    have hoky : ok = true := by
     have h1 := HZ.out
     cases ok with
     | true => rfl
     | false => rw [show z = 5 from h1.symm] at hz0; exact absurd hz0 (by decide)
    have HFL : Aside0 (fl5 ≤ id) := ⟨by
     rcases HR5.out.2.2.1 with e | ⟨y, hy, e, hle⟩
     ·omega
     ·have := HNE.out _ (List.mem_map.mpr ⟨y, hy, rfl⟩)
      have : y.id ≠ id := this
      omega⟩
    refine update_v rfl rfl rfl rfl rfl HX6D.out.st.tab.m HNE5.out rfl ?_
    have HXT : Aside0 (PS g N0 w (setBlock w7 gm (.map ((T5_.map Op.en ++ [(⟨id, gb, clock⟩ : En)]).map En.e).toArray (clock + 1))) gt gm fl5 (T5_ ++ [⟨id, gb, clock, List.replicate (g id).length false⟩]) (clock + 1) gp id i n A L c) := ⟨HX6D.out.step HI.out.2 (Fr.mono fr_setBlock (fun k e => by rw [e]; exact HX6D.out.st.foot_m)) (HX6D.out.st.add (by rw [HN.out]; exact HB6D.out) (by have := HX5.out.fr.size; have := HB6.out.2; have := HI.out.2; omega) (fun x hx e => by have := blk_lt (HX5.out.st.ops x hx).choose_spec.1; have := HB6.out.2; omega) (fun x hx e => HNE5.out _ (List.mem_map.mpr ⟨x, hx, rfl⟩) e) (HR5.out.2.2.2.1 hoky) HFL.out HW.out)⟩
    generalize setBlock w7 gm (.map ((T5_.map Op.en ++ [(⟨id, gb, clock⟩ : En)]).map En.e).toArray (clock + 1)) = wt at HXT ⊢
    have HXX : Aside0 ((⟨id, gb, clock, List.replicate (g id).length false⟩ : Op) ∈ T5_ ++ [⟨id, gb, clock, List.replicate (g id).length false⟩] ∧ (List.replicate (g id).length false).getD i false = false) := ⟨List.mem_append_right _ (List.mem_singleton.mpr rfl), getD_new _ _⟩
    have HXF : HeadF T (T5_ ++ [⟨id, gb, clock, List.replicate (g id).length false⟩]) fl fl5 id := ⟨fun z hz => (List.mem_append.mp hz).elim (fun h => .inr ⟨z, HR5.out.1 z h, rfl⟩) (fun h => .inl (by rw [List.mem_singleton.mp h])), HR5.out.2.1, HFL.out, HR5.out.2.2.1.elim .inl (fun ⟨y, hy, e, _⟩ => .inr ⟨y, hy, e⟩)⟩
    generalize T5_ ++ [⟨id, gb, clock, List.replicate (g id).length false⟩] = Tt at HXT HXX HXF
    generalize hcame : List.replicate (g id).length false = cm at HXX
    clear hcame
    have hq0 := cell_0 HXT.out.p; have hq1 := cell_1 HXT.out.p; have hq2 := cell_2 HXT.out.p; have hq3 := cell_3 HXT.out.p; have ht0 := HXT.out.st.tab.c0; have ht1 := HXT.out.st.tab.c1
    go_wp2_with (first
     | ((with_reducible refine gate_dst (N := 74) rfl ?_); refine wpList_load_mid rfl 60 (.tmp 3) rfl gp 0 rfl [.int .u64 id, .int .i64 (i : Int), .int .i64 (n : Int), .slice A L c] _ HXT.out.p.range Tryz.underlying60 rfl size60 ?_)
     | ((with_reducible refine gate_dst (N := 9) rfl ?_); refine alloc_v rfl rfl zero60 ?hr ?_; (case hr => rfl); intro go hg wa hb hw; have HXa := Aside0.mk (HXT.out.below hw); have HGa : Aside0 (go ≠ gp ∧ w.heap.size ≤ go) := ⟨by have := blk_lt HXT.out.p; omega, by have := HXT.out.fr.size; omega⟩; have HOa : Aside0 (wa.heap[go]? = some (.cells #[.int .u64 0, .int .i64 0, .int .i64 0, .slice none 0 0] 60 (0, 0))) := ⟨hb⟩; clear hb hw hg)
     | (refine store_row (t := 60) (e := 60) (g := go) (cells := #[.int .u64 id, .int .i64 (i : Int), .int .i64 (n : Int), .slice A L c]) rfl rfl rfl rfl rfl HOa.out size60 rfl (by simp [Value.oneCell']) ?_; intro wb hb hf; have HXb := Aside0.mk (HXa.out.far HOa.out hf HGa.out.1 HGa.out.2); have HOb : Aside0 (PBox wb go id i n A L c) := ⟨hb⟩; clear hb hf; have hq0 := cell_0 HXb.out.p; have hq1 := cell_1 HXb.out.p; have hq2 := cell_2 HXb.out.p; have hq3 := cell_3 HXb.out.p; have ht0 := HXb.out.st.tab.c0; have ht1 := HXb.out.st.tab.c1)
     | (go_at_call 29; refine (Go.Proofs.YteadamkkbgnpeaaGreat.L.clone_H ((g id).getD i []) L A c HL.out.1 HXb.out.C.2.1 (by have := HP.out.2.2.1; have := HL.out.1; omega) _ HXb.out.C.2.2).mono ?_; rintro e wc ⟨v, rfl, hr, hw⟩; have hy := Byt.of_R hr; obtain ⟨A6, c6, rfl, _, _⟩ := Kd.R_reads hr; rw [HL.out.1] at hy ⊢; have HVc : Aside0 (Byt 0 wc (.slice A6 L c6) ((g id).getD i [])) := ⟨hy.lower (Nat.zero_le _)⟩; have HXc := Aside0.mk (HXb.out.below hw); have HOc : Aside0 (PBox wc go id i n A L c) := ⟨(hw.block go (blk_lt HOb.out)).trans HOb.out⟩; have hs3 := cell_3 HOc.out; have hf3 := blk_frozen HOc.out 3; clear hr hw hy))
    have hF := (Fr.refl wc (fun k => k = go)).setCell (p := ⟨go, 3, none⟩) (.inl rfl) (.slice A6 L c6)
    have HXd : Aside0 (PS g N0 w (wc.setCell ⟨go, 3, none⟩ (.slice A6 L c6)).drew gt gm fl5 Tt (clock + 1) gp id i n A L c ∧ PBox (wc.setCell ⟨go, 3, none⟩ (.slice A6 L c6)).drew go id i n A6 L c6 ∧ Byt 0 (wc.setCell ⟨go, 3, none⟩ (.slice A6 L c6)).drew (.slice A6 L c6) ((g id).getD i [])) := ⟨(HXc.out.far HOc.out hF HGa.out.1 HGa.out.2).below (below_drew (Below.refl _ _)), by have := blk_set HOc.out 3 (.slice A6 L c6); show (wc.setCell ⟨go, 3, none⟩ (.slice A6 L c6)).heap[go]? = _; simpa using this, (HVc.out.fr hF (fun k e => by rw [e]; exact T5.not HOc.out (by decide))).below (below_drew (Below.refl _ _))⟩
    clear hF
    have hi0 := eq_true (show (0 : Int) ≤ (i : Int) by omega)
    have hi64 := eq_true (show (i : Int) < 64 by have := HI.out.1; have := HW.out.n1; omega)
    have hi65 := eq_true (show i < 64 by have := HI.out.1; have := HW.out.n1; omega)
    refine start_ (n := 15) (S := fun w' => w'.heap[go]? = some (.cells #[.int .u64 id, .int .i64 (i : Int), .int .i64 (n : Int), .slice A6 L c6] 60 (0, 0)) ∧ w'.cell? ⟨gp, 1, none⟩ = some (.int .i64 (i : Int))) (ds := [14]) #[false, false, false, false, false, false, false, false, false, false, false, false, false, false, false] (by kernel_rfl) rfl rfl ⟨HXd.out.2.1, cell_1 HXd.out.1.p⟩ (fun hHeld => ?_)
    refine with_tabW J_put.tab20 J_put.bits20 (fun HT_ HW_ => ?_)
    generalize (wc.setCell ⟨go, 3, none⟩ (.slice A6 L c6)).drew = wd at HXd hHeld ⊢
    refine pure_ (i := 0) (N := some 79) (v := ?_) (a' := ?_) #[true, false, false, false, false, false, false, false, false, false, false, false, false, false, false] rfl rfl (any_of HT_.out (by kernel_rfl)) (fun _ _ _ h => h) (Or.inl ⟨by rfl, ?_⟩) ?_ ?_
    rotate_left
    ·intro w'
     go_simp
     with_reducible rfl
    rotate_left
    ·simp only [Act.put, List.setIfInBounds_toArray, List.set_cons_zero, List.set_cons_succ, i64_w, i32_w]
     rfl
    refine pure_ (i := 1) (N := some 80) (v := ?_) (a' := ?_) #[true, true, false, false, false, false, false, false, false, false, false, false, false, false, false] rfl rfl (any_of HT_.out (by kernel_rfl)) (fun _ _ _ h => h) (Or.inl ⟨by rfl, ?_⟩) ?_ ?_
    rotate_left
    ·intro w'
     go_simp
     with_reducible rfl
    rotate_left
    ·simp only [Act.put, List.setIfInBounds_toArray, List.set_cons_zero, List.set_cons_succ, i64_w, i32_w]
     rfl
    refine pure_ (i := 3) (N := some 82) (v := ?_) (a' := ?_) #[true, true, false, true, false, false, false, false, false, false, false, false, false, false, false] rfl rfl (any_of HT_.out (by kernel_rfl)) (fun _ _ _ h => h) (Or.inl ⟨by rfl, ?_⟩) ?_ ?_
    rotate_left
    ·intro w'
     go_simp
     with_reducible rfl
    rotate_left
    ·simp only [Act.put, List.setIfInBounds_toArray, List.set_cons_zero, List.set_cons_succ, i64_w, i32_w]
     rfl
    refine pure_ (i := 4) (N := some 83) (v := ?_) (a' := ?_) #[true, true, false, true, true, false, false, false, false, false, false, false, false, false, false] rfl rfl (any_of HT_.out (by kernel_rfl)) (fun _ _ _ h => h) (Or.inl ⟨by rfl, ?_⟩) ?_ ?_
    rotate_left
    ·intro w'
     go_simp
     with_reducible rfl
    rotate_left
    ·simp only [Act.put, List.setIfInBounds_toArray, List.set_cons_zero, List.set_cons_succ, i64_w, i32_w]
     rfl
    refine pure_ (i := 7) (N := some 86) (v := ?_) (a' := ?_) #[true, true, false, true, true, false, false, true, false, false, false, false, false, false, false] rfl rfl (any_of HT_.out (by kernel_rfl)) (fun _ _ _ h => h) (Or.inl ⟨by rfl, ?_⟩) ?_ ?_
    rotate_left
    ·intro w'
     go_simp
     with_reducible rfl
    rotate_left
    ·simp only [Act.put, List.setIfInBounds_toArray, List.set_cons_zero, List.set_cons_succ, i64_w, i32_w]
     rfl
    refine pure_ (i := 8) (N := some 87) (v := ?_) (a' := ?_) #[true, true, false, true, true, false, false, true, true, false, false, false, false, false, false] rfl rfl (any_of HT_.out (by kernel_rfl)) (fun _ _ _ h => h) (Or.inl ⟨by rfl, ?_⟩) ?_ ?_
    rotate_left
    ·intro w'
     go_simp
     with_reducible rfl
    rotate_left
    ·simp only [Act.put, List.setIfInBounds_toArray, List.set_cons_zero, List.set_cons_succ, i64_w, i32_w]
     rfl
    refine pure_ (i := 11) (N := some 89) (v := ?_) (a' := ?_) #[true, true, false, true, true, false, false, true, true, false, false, true, false, false, false] rfl rfl (any_of HT_.out (by kernel_rfl)) (fun _ _ _ h => h) (Or.inl ⟨by rfl, ?_⟩) ?_ ?_
    rotate_left
    ·intro w'
     go_simp
     with_reducible rfl
    rotate_left
    ·simp only [Act.put, List.setIfInBounds_toArray, List.set_cons_zero, List.set_cons_succ, i64_w, i32_w]
     rfl
    refine pure_ (i := 12) (N := some 90) (v := ?_) (a' := ?_) #[true, true, false, true, true, false, false, true, true, false, false, true, true, false, false] rfl rfl (any_of HT_.out (by kernel_rfl)) (fun _ _ _ h => h) (Or.inl ⟨by rfl, ?_⟩) ?_ ?_
    rotate_left
    ·intro w'
     go_simp
     with_reducible rfl
    rotate_left
    ·simp only [Act.put, List.setIfInBounds_toArray, List.set_cons_zero, List.set_cons_succ, i64_w, i32_w]
     rfl
    refine take_ (i := 2) (N := some 81) (v := ?_) (a' := ?_) #[true, true, true, true, true, false, false, true, true, false, false, true, true, false, false] rfl rfl (take_ofW HT_.out HW_.out (by kernel_rfl)) (fun _ _ _ h => h) (Or.inl ⟨by rfl, ?_⟩) hHeld ?_ ?_
    rotate_left
    ·rintro w' ⟨s0, s1⟩
     go_simp
     with_reducible rfl
    rotate_left
    ·simp only [Act.put, List.setIfInBounds_toArray, List.set_cons_zero, List.set_cons_succ, i64_w, i32_w]
     rfl
    refine pure_ (i := 9) (N := some 88) (v := ?_) (a' := ?_) #[true, true, true, true, true, false, false, true, true, true, false, true, true, false, false] rfl rfl (any_of HT_.out (by kernel_rfl)) (fun _ _ _ h => h) (Or.inl ⟨by rfl, ?_⟩) ?_ ?_
    rotate_left
    ·intro w'
     go_simp
     with_reducible rfl
    rotate_left
    ·simp only [Act.put, List.setIfInBounds_toArray, List.set_cons_zero, List.set_cons_succ, i64_w, i32_w]
     rfl
    refine take_ (i := 5) (N := some 84) (v := ?_) (a' := ?_) #[true, true, true, true, true, true, false, true, true, true, false, true, true, false, false] rfl rfl (take_ofW HT_.out HW_.out (by kernel_rfl)) (fun _ _ _ h => h) (Or.inl ⟨by rfl, ?_⟩) hHeld ?_ ?_
    rotate_left
    ·rintro w' ⟨s0, s1⟩
     go_simp
     with_reducible rfl
    rotate_left
    ·simp only [Act.put, List.setIfInBounds_toArray, List.set_cons_zero, List.set_cons_succ, i64_w, i32_w]
     rfl
    refine take_ (i := 6) (N := some 85) (v := .agg (#[.int .u64 id, .int .i64 (i : Int), .int .i64 (n : Int), .slice A6 L c6])) (a' := ?_) #[true, true, true, true, true, true, true, true, true, true, false, true, true, false, false] rfl rfl (take_ofW HT_.out HW_.out (by kernel_rfl)) (fun _ _ _ h => h) (yields_row (by rfl) 60 (.tmp 9) rfl go rfl 60 (#[.int .u64 id, .int .i64 (i : Int), .int .i64 (n : Int), .slice A6 L c6]) _ (fun _ s => s.1) Tryz.underlying60 rfl size60) hHeld ?_ ?_
    rotate_left
    ·simp only [Act.put, List.setIfInBounds_toArray, List.set_cons_zero, List.set_cons_succ, i64_w, i32_w]
     rfl
    refine one_ (i := 10) (N := none) #[true, true, true, true, true, true, true, true, true, true, true, true, true, false, false] rfl rfl (one_of HT_.out (by kernel_rfl)) (by decide) (fun K hK => ?_)
    obtain ⟨cs, hcs, hCC⟩ := HXd.out.1.st.ops _ HXX.out.1
    have hcb : wd.cell? ⟨gb, 1 + i, none⟩ = some (.bool (cm.getD i false)) := (blk_cell hcs (1 + i)).trans (by simpa using hCC.bit i HI.out.1)
    have hfb : wd.frozen? ⟨gb, 1 + i, none⟩ = false := blk_frozen hcs (1 + i)
    have hcs : wd.heap[gb]? = _ := hcs
    refine skip_ (w1 := (wd.setCell ⟨gb, 1 + i, none⟩ (.bool true))) (by rfl) rfl ?_ ?_
    ·go_simp
    have HXe : Aside0 ((wd.setCell ⟨gb, 1 + i, none⟩ (.bool true)).heap[gb]? = some (.cells (cs.set (1 + i) (.bool true)).toArray 113 (0, 0)) ∧ Fr wd (wd.setCell ⟨gb, 1 + i, none⟩ (.bool true)) (fun k => k = gb) ∧ OpenC wd cs id (g id) cm) := ⟨by have := blk_set hcs (1 + i) (.bool true); simpa using this, (Fr.refl wd (fun k => k = gb)).setCell (p := ⟨gb, 1 + i, none⟩) (.inl rfl) _, hCC⟩
    have HXp : Aside0 (PBox (wd.setCell ⟨gb, 1 + i, none⟩ (.bool true)) go id i n A6 L c6 ∧ PBox (wd.setCell ⟨gb, 1 + i, none⟩ (.bool true)) gp id i n A L c) := ⟨HXe.out.2.1.blk HXd.out.2.1 (ne_objs HXd.out.2.1 hcs (by intro e; injection e with _ e; exact absurd e (by decide))), HXe.out.2.1.blk HXd.out.1.p (ne_objs HXd.out.1.p hcs (by intro e; injection e with _ e; exact absurd e (by decide)))⟩
    clear hcb hfb hcs hCC
    generalize (wd.setCell ⟨gb, 1 + i, none⟩ (.bool true)) = we at HXe HXp ⊢
    refine hK.out _ _ ⟨HXp.out.1, cell_1 HXp.out.2⟩ (fun hHeld => ?_)
    clear hK K
    refine pure_ (i := 13) (N := some 91) (v := ?_) (a' := ?_) #[true, true, true, true, true, true, true, true, true, true, true, true, true, true, false] rfl rfl (any_of HT_.out (by kernel_rfl)) (fun _ _ _ h => h) (Or.inl ⟨by rfl, ?_⟩) ?_ ?_
    rotate_left
    ·intro w'
     go_simp
     with_reducible rfl
    rotate_left
    ·simp only [Act.put, List.setIfInBounds_toArray, List.set_cons_zero, List.set_cons_succ, i64_w, i32_w]
     rfl
    refine last_ (i := 14) (N := none) #[true, true, true, true, true, true, true, true, true, true, true, true, true, true, true] rfl rfl (one_of HT_.out (by kernel_rfl)) (by decide) (fun K hK => ?_)
    refine store_part_step (t := 60) (e := 113) (g := gb) (off := 65 + i * 4) (cur := cs.set (1 + i) (.bool true)) (cells := #[.int .u64 id, .int .i64 (i : Int), .int .i64 (n : Int), .slice A6 L c6]) rfl rfl rfl rfl rfl HXe.out.1 size60 (by rw [List.length_set, HXe.out.2.2.len]; have := HI.out.1; have := HW.out.n1; show _ + 4 ≤ _; omega) (by simp [Value.oneCell']) ?_
    intro wf hb hf
    have HXf : Aside0 (wf.heap[gb]? = some (.cells (splice (cs.set (1 + i) (.bool true)) (65 + i * 4) (#[.int .u64 id, .int .i64 (i : Int), .int .i64 (n : Int), .slice A6 L c6] : Array Value).toList).toArray 113 (0, 0)) ∧ Fr wd wf (fun k => k = gb)) := ⟨hb, HXe.out.2.1.trans hf (fun k e => .inl e)⟩
    clear hb hf
    refine hK.out _ _ ?_
    clear hK K
    refine done_ (done_of HT_.out (by kernel_rfl)) ?_

    have hsp : ∀ k, k < 322 → 65 + 4 * 4 ≤ k → (splice (cs.set (1 + i) (.bool true)) (65 + i * 4) (#[.int .u64 id, .int .i64 (i : Int), .int .i64 (n : Int), .slice A6 L c6] : Array Value).toList)[k]? = cs[k]? := fun k hk1 hk2 => by
     rw [splice_get _ _ _ _ (by rw [List.length_set, HXe.out.2.2.len]; have := HI.out.1; have := HW.out.n1; show _ + 4 ≤ _; omega), if_neg (by have := HI.out.1; have := HW.out.n1; show ¬ (_ ∧ _ < _ + 4); omega), List.getElem?_set, if_neg (by have := HI.out.1; have := HW.out.n1; omega)]
    obtain ⟨m, hm⟩ : ∃ m, missing cm = m + 1 := ⟨missing cm - 1, by have := missing_set cm i (by rw [HXe.out.2.2.n]; exact HI.out.1) HXX.out.2; omega⟩
    have HM : Aside0 (missing cm = m + 1 ∧ missing (cm.set i true) = m) := ⟨hm, by have := missing_set cm i (by rw [HXe.out.2.2.n]; exact HI.out.1) HXX.out.2; omega⟩
    have hleft : wf.cell? ⟨gb, 321, none⟩ = some (.int .i64 ((m : Int) + 1)) := by
     rw [blk_cell HXf.out.1 321, List.getElem?_toArray, hsp 321 (by omega) (by omega), HXe.out.2.2.left, hm]
     rfl
    have hlf := blk_frozen HXf.out.1 321
    have hwm : wrap64 (m : Int) = (m : Int) := by rw [wrap64_id (by have := missing_le cm; have := HXe.out.2.2.n; have := HW.out.n1; omega)]
    have hset := blk_set HXf.out.1 321 (.int .i64 (m : Int))
    have hfg := HXf.out.2.trans ((Fr.refl wf (fun k => k = gb)).setCell (p := ⟨gb, 321, none⟩) (.inl rfl) (.int .i64 (m : Int))) (fun k e => .inl e)
    have HXg : Aside0 (PS g N0 w (wf.setCell ⟨gb, 321, none⟩ (.int .i64 (m : Int))) gt gm fl5 (cameT Tt gb i) (clock + 1) gp id i n A L c ∧ OpenAt (wf.setCell ⟨gb, 321, none⟩ (.int .i64 (m : Int))) gb id (g id) (cm.set i true)) := by
     have ho : OpenAt (wf.setCell ⟨gb, 321, none⟩ (.int .i64 (m : Int))) gb id (g id) (cm.set i true) := by
      have h1 := HXe.out.2.2.put HW.out.n1.2 i HI.out.1 HXX.out.2 _ HXd.out.2.2
      rw [show ((missing cm : Int) - 1) = (m : Int) by omega, HN.out] at h1
      refine ⟨_, ?_, h1.fr hfg (fun k e => by rw [e]; exact (HXd.out.1.st.foot_b HXX.out.1).2.not5)⟩
      rw [hset]
      unfold putC
      simp
     exact ⟨HXd.out.1.step HI.out.2 (hfg.mono (fun k e => by rw [e]; exact HXd.out.1.st.foot_b HXX.out.1)) (HXd.out.1.st.put HXX.out.1 i hfg ho), ho⟩
    clear hset hfg hsp
    go_wp2
    ·rename_i hm0
     generalize wf.setCell ⟨gb, 321, none⟩ (.int .i64 (m : Int)) = wg at HXg ⊢
     go_ret3
     exact ⟨_, false, _, fl5, _, _, rfl, HXg.out.1.st, HXg.out.1.fr, fun z hz => (let ⟨y, hy, e, _⟩ := cameT_mem hz; (HXF.ids y hy).elim (fun h => .inl (e.symm.trans h)) (fun ⟨u, hu, e2⟩ => .inr ⟨u, hu, e2.trans e⟩)), HXF.le1, HXF.from_.elim .inl (fun h => .inr (.inr h)), (fun e => by cases e), fun h1 _ _ => by have := missing_le cm; have := HXe.out.2.2.n; have := HM.out.1; omega⟩
    ·rename_i hm0
     have hm1 : m = 0 := by omega
     generalize wf.setCell ⟨gb, 321, none⟩ (.int .i64 (m : Int)) = wg at HXg ⊢
     have hn0 := eq_true (show (0 : Int) ≤ (n : Int) by omega)
     have hn64 := eq_true (show (n : Int) ≤ 64 by have := HN.out; have := HW.out.n1; omega)
     have HXh : Aside0 (PS g N0 w wg.drew gt gm fl5 (cameT Tt gb i) (clock + 1) gp id i n A L c ∧ OpenAt wg.drew gb id (g id) (cm.set i true)) := ⟨HXg.out.1.below (below_drew (Below.refl _ _)), HXg.out.2.below (below_drew (Below.refl _ _))⟩
     refine start_ (n := 14) (S := fun w' => w'.cell? ⟨gb, 0, none⟩ = some (.int .i64 (n : Int))) (ds := [8]) #[false, false, false, false, false, false, false, false, false, false, false, false, false, false] (by kernel_rfl) rfl rfl ((by rw [← HN.out]; exact HXh.out.2.count)) (fun hHeld => ?_)
     refine with_tabW J_put.tab24 J_put.bits24 (fun HT_ HW_ => ?_)
     generalize wg.drew = wg2 at HXh hHeld ⊢
     refine pure_ (i := 0) (N := some 105) (v := ?_) (a' := ?_) #[true, false, false, false, false, false, false, false, false, false, false, false, false, false] rfl rfl (any_of HT_.out (by kernel_rfl)) (fun _ _ _ h => h) (Or.inl ⟨by rfl, ?_⟩) ?_ ?_
     rotate_left
     ·intro w'
      go_simp
      with_reducible rfl
     rotate_left
     ·simp only [Act.put, List.setIfInBounds_toArray, List.set_cons_zero, List.set_cons_succ, i64_w, i32_w]
      rfl
     refine pure_ (i := 1) (N := some 106) (v := ?_) (a' := ?_) #[true, true, false, false, false, false, false, false, false, false, false, false, false, false] rfl rfl (any_of HT_.out (by kernel_rfl)) (fun _ _ _ h => h) (Or.inl ⟨by rfl, ?_⟩) ?_ ?_
     rotate_left
     ·intro w'
      go_simp
      with_reducible rfl
     rotate_left
     ·simp only [Act.put, List.setIfInBounds_toArray, List.set_cons_zero, List.set_cons_succ, i64_w, i32_w]
      rfl
     refine pure_ (i := 2) (N := some 107) (v := ?_) (a' := ?_) #[true, true, true, false, false, false, false, false, false, false, false, false, false, false] rfl rfl (any_of HT_.out (by kernel_rfl)) (fun _ _ _ h => h) (Or.inl ⟨by rfl, ?_⟩) ?_ ?_
     rotate_left
     ·intro w'
      go_simp
      with_reducible rfl
     rotate_left
     ·simp only [Act.put, List.setIfInBounds_toArray, List.set_cons_zero, List.set_cons_succ, i64_w, i32_w]
      rfl
     refine pure_ (i := 3) (N := some 108) (v := ?_) (a' := ?_) #[true, true, true, true, false, false, false, false, false, false, false, false, false, false] rfl rfl (any_of HT_.out (by kernel_rfl)) (fun _ _ _ h => h) (Or.inl ⟨by rfl, ?_⟩) ?_ ?_
     rotate_left
     ·intro w'
      go_simp
      with_reducible rfl
     rotate_left
     ·simp only [Act.put, List.setIfInBounds_toArray, List.set_cons_zero, List.set_cons_succ, i64_w, i32_w]
      rfl
     refine pure_ (i := 4) (N := some 109) (v := ?_) (a' := ?_) #[true, true, true, true, true, false, false, false, false, false, false, false, false, false] rfl rfl (any_of HT_.out (by kernel_rfl)) (fun _ _ _ h => h) (Or.inl ⟨by rfl, ?_⟩) ?_ ?_
     rotate_left
     ·intro w'
      go_simp
      with_reducible rfl
     rotate_left
     ·simp only [Act.put, List.setIfInBounds_toArray, List.set_cons_zero, List.set_cons_succ, i64_w, i32_w]
      rfl
     refine pure_ (i := 5) (N := some 110) (v := ?_) (a' := ?_) #[true, true, true, true, true, true, false, false, false, false, false, false, false, false] rfl rfl (any_of HT_.out (by kernel_rfl)) (fun _ _ _ h => h) (Or.inl ⟨by rfl, ?_⟩) ?_ ?_
     rotate_left
     ·intro w'
      go_simp
      with_reducible rfl
     rotate_left
     ·simp only [Act.put, List.setIfInBounds_toArray, List.set_cons_zero, List.set_cons_succ, i64_w, i32_w]
      rfl
     refine take_ (i := 6) (N := some 111) (v := ?_) (a' := ?_) #[true, true, true, true, true, true, true, false, false, false, false, false, false, false] rfl rfl (take_ofW HT_.out HW_.out (by kernel_rfl)) (fun _ _ _ h => h) (Or.inl ⟨by rfl, ?_⟩) hHeld ?_ ?_
     rotate_left
     ·intro w' s0
      go_simp
      with_reducible rfl
     rotate_left
     ·simp only [Act.put, List.setIfInBounds_toArray, List.set_cons_zero, List.set_cons_succ, i64_w, i32_w]
      rfl
     refine pure_ (i := 7) (N := some 112) (v := ?_) (a' := ?_) #[true, true, true, true, true, true, true, true, false, false, false, false, false, false] rfl rfl (any_of HT_.out (by kernel_rfl)) (fun _ _ _ h => h) (Or.inl ⟨by rfl, ?_⟩) ?_ ?_
     rotate_left
     ·intro w'
      go_simp
      with_reducible rfl
     rotate_left
     ·simp only [Act.put, List.setIfInBounds_toArray, List.set_cons_zero, List.set_cons_succ, i64_w, i32_w]
      rfl
     refine last_ (i := 8) (N := some 113) #[true, true, true, true, true, true, true, true, true, false, false, false, false, false] rfl rfl (one_of HT_.out (by kernel_rfl)) (by decide) (fun K hK => ?_)
     refine goes_ Tryz.func43 (by kernel_rfl) rfl #[.slice (some ⟨gb, 65, none⟩) n 64] (by rfl) rfl rfl (by simp only [List.map_toArray, List.map_cons, List.map_nil]; rfl) ?_
     with_reducible refine (join_n (g := g) (b := gb) HW.out HN.out _ (HXh.out.2.row (by rw [HM.out.2]; exact hm1))).mono ?_
     rintro e wh ⟨v, rfl, hr, hw⟩
     refine ⟨_, rfl, ?_⟩
     have HXj : Aside0 (PS g N0 w wh gt gm fl5 (cameT Tt gb i) (clock + 1) gp id i n A L c ∧ Byt w.heap.size wh v (g id).flatten) := ⟨HXh.out.1.below hw, (Byt.of_R hr).lower (by have := HXh.out.1.fr.size; omega)⟩
     clear hr hw
     refine hK.out _ _ ?_
     clear hK K
     refine norm_ (a' := ?_) ?_ ?_
     rotate_left
     ·show Act.put _ (some 113) _ = _
      simp only [Act.put, List.setIfInBounds_toArray, List.set_cons_zero, List.set_cons_succ, i64_w, i32_w]
      rfl
     refine pure_ (i := 9) (N := some 104) (v := ?_) (a' := ?_) #[true, true, true, true, true, true, true, true, true, true, false, false, false, false] rfl rfl (any_of HT_.out (by kernel_rfl)) (fun _ _ _ h => h) (Or.inl ⟨by rfl, ?_⟩) ?_ ?_
     rotate_left
     ·intro w'
      go_simp
      with_reducible rfl
     rotate_left
     ·simp only [Act.put, List.setIfInBounds_toArray, List.set_cons_zero, List.set_cons_succ, i64_w, i32_w]
      rfl
     refine pure_ (i := 10) (N := some 114) (v := ?_) (a' := ?_) #[true, true, true, true, true, true, true, true, true, true, true, false, false, false] rfl rfl (any_of HT_.out (by kernel_rfl)) (fun _ _ _ h => h) (Or.inl ⟨by rfl, ?_⟩) ?_ ?_
     rotate_left
     ·intro w'
      go_simp
      with_reducible rfl
     rotate_left
     ·simp only [Act.put, List.setIfInBounds_toArray, List.set_cons_zero, List.set_cons_succ, i64_w, i32_w]
      rfl
     refine pure_ (i := 11) (N := some 115) (v := ?_) (a' := ?_) #[true, true, true, true, true, true, true, true, true, true, true, true, false, false] rfl rfl (any_of HT_.out (by kernel_rfl)) (fun _ _ _ h => h) (Or.inl ⟨by rfl, ?_⟩) ?_ ?_
     rotate_left
     ·intro w'
      go_simp
      with_reducible rfl
     rotate_left
     ·simp only [Act.put, List.setIfInBounds_toArray, List.set_cons_zero, List.set_cons_succ, i64_w, i32_w]
      rfl
     refine pure_ (i := 12) (N := some 10) (v := ?_) (a' := ?_) #[true, true, true, true, true, true, true, true, true, true, true, true, true, false] rfl rfl (any_of HT_.out (by kernel_rfl)) (fun _ _ _ h => h) (Or.inl ⟨by rfl, ?_⟩) ?_ ?_
     rotate_left
     ·intro w'
      go_simp
      with_reducible rfl
     rotate_left
     ·simp only [Act.put, List.setIfInBounds_toArray, List.set_cons_zero, List.set_cons_succ, i64_w, i32_w]
      rfl
     refine pure_ (i := 13) (N := some 11) (v := ?_) (a' := ?_) #[true, true, true, true, true, true, true, true, true, true, true, true, true, true] rfl rfl (any_of HT_.out (by kernel_rfl)) (fun _ _ _ h => h) (Or.inl ⟨by rfl, ?_⟩) ?_ ?_
     rotate_left
     ·intro w'
      go_simp
      with_reducible rfl
     rotate_left
     ·simp only [Act.put, List.setIfInBounds_toArray, List.set_cons_zero, List.set_cons_succ, i64_w, i32_w]
      rfl
     refine done_ (done_of HT_.out (by kernel_rfl)) ?_

     have hq0 := cell_0 HXj.out.1.p; have ht0 := HXj.out.1.st.tab.c0; have ht1 := HXj.out.1.st.tab.c1
     have hidw := u64_add1 id (by have := HP.out.1; omega)
     go_wp2_with (first
      | (go_at_call 44; refine (raise_calls gt gm fl5 (id + 1) _ (clock + 1) _ HXj.out.1.st.tab).mono ?_; rintro e wk ⟨rfl, ht, hf⟩; have HXk : Aside0 (TabSt g N0 wk gt gm (id + 1) ((cameT Tt gb i).filter (fun x => decide (id + 1 ≤ x.id))) (clock + 1) ∧ Fr w wk (Foot N0 w) ∧ Byt w.heap.size wk v (g id).flatten) := ⟨HXj.out.1.st.raise ht hf, HXj.out.1.fr.trans (Fr.foot HXj.out.1.st hf) (fun k hk => foot_back (S := fun _ => False) HXj.out.1.fr HI.out.2 hk), HXj.out.2.fr (Fr.foot HXj.out.1.st hf) (fun k hk => hk.2.not5)⟩; clear ht hf))
     go_ret3
     exact ⟨_, true, _, id + 1, _, _, rfl, HXk.out.1, HXk.out.2.1, fun z hz => (let ⟨y, hy, e, _⟩ := cameT_mem (List.mem_filter.mp hz).1; (HXF.ids y hy).elim (fun h => .inl (e.symm.trans h)) (fun ⟨u, hu, e2⟩ => .inr ⟨u, hu, e2.trans e⟩)), (by have := HXF.le1; have := HXF.le2; omega), .inr (.inl rfl), fun _ => ⟨rfl, (by have := HXF.le1; have := HXF.le2; omega), rfl, HXk.out.2.2⟩, fun _ _ _ => rfl⟩
  ·obtain ⟨⟨yid, gb, bo, cm⟩, hy, rfl⟩ := List.mem_map.mp (List.mem_of_getElem? hj)
   have h2 : id = yid := hxid.symm
   subst h2
   have HY := Aside0.mk hy
   clear hj hxid hy
   go_enter Tryz.func22, Tryz.ntmps22
   go_wp2_with (first
    | ((with_reducible refine gate_dst (N := 3) rfl ?_); refine box_v rfl rfl rfl ?_; intro gp hg w1 hb hw; have HX1 : Aside0 (PS g N0 w w1 gt gm fl T clock gp id i n A L c) := ⟨⟨HT.out.below hw, hb, Fr.of_below hw _, by rw [hg]; exact Nat.le_refl _, HL.out.2.below hw⟩⟩; clear hb hw hg; have hq0 := cell_0 HX1.out.p; have hq1 := cell_1 HX1.out.p; have hq2 := cell_2 HX1.out.p; have hq3 := cell_3 HX1.out.p; have ht0 := HX1.out.st.tab.c0; have ht1 := HX1.out.st.tab.c1)
    | (go_at_call 41; refine (made_calls gt gm fl _ clock _ HX1.out.st.tab).mono ?_; rintro e w2 ⟨rfl, hw2⟩; have hw2 := hw2.symm; subst hw2)
    | ((with_reducible refine gate_dst (N := 17) rfl ?_); refine wpList_load_mid rfl 60 (.tmp 3) rfl gp 0 rfl [.int .u64 id, .int .i64 (i : Int), .int .i64 (n : Int), .slice A L c] _ HX1.out.p.range Tryz.underlying60 rfl size60 ?_)
    | (go_at_call 32; refine (right_calls id (i : Int) (n : Int) A c L HX1.out.C.1.symm HX1.out.C.2.1 HP.out _ HX1.out.C.2.2).mono ?_; rintro e w2 ⟨rfl, hw⟩; have HX2 := Aside0.mk (HX1.out.below hw); clear hw; have hq0 := cell_0 HX2.out.p; have hq1 := cell_1 HX2.out.p; have hq2 := cell_2 HX2.out.p; have hq3 := cell_3 HX2.out.p; have ht0 := HX2.out.st.tab.c0; have ht1 := HX2.out.st.tab.c1))
   go_quiet (fail)
   have HX3 := Aside0.mk (HX2.out.drewN nq)
   generalize w2.drewN nq = w3 at HX3 ⊢
   have hq0 := cell_0 HX3.out.p; have hq1 := cell_1 HX3.out.p; have hq2 := cell_2 HX3.out.p; have hq3 := cell_3 HX3.out.p; have ht0 := HX3.out.st.tab.c0; have ht1 := HX3.out.st.tab.c1
   go_wp2
   have hk : ∀ n : Nat, (Instr.lookup 89 (.map (some gm)) (.int .u64 id) false).run Tryz.prog (w3.drewN n) = .ok (.pointer (some ⟨gb, 0, none⟩)) (w3.drewN n) := fun n => by have := look_run (HX3.out.drewN n).st.tab.m id; rw [hp] at this; exact this
   go_quiet (fail)
   have HX4 := Aside0.mk (HX3.out.drewN nq)
   generalize w3.drewN nq = w4 at HX4 ⊢
   clear hk
   have hq0 := cell_0 HX4.out.p; have hq1 := cell_1 HX4.out.p; have hq2 := cell_2 HX4.out.p; have hq3 := cell_3 HX4.out.p; have ht0 := HX4.out.st.tab.c0; have ht1 := HX4.out.st.tab.c1
   go_wp2
   have hb0 : w4.cell? ⟨gb, 0, none⟩ = some (.int .i64 (n : Int)) := by have := (HX4.out.st.ops _ HY.out).count; rw [HN.out] at this; exact this
   have hnn : ((n : Int) != (n : Int)) = false := bne_self_eq_false _
   go_quiet (fail)
   have HX5 := Aside0.mk (HX4.out.drewN nq)
   generalize w4.drewN nq = w5 at HX5 ⊢
   have hq0 := cell_0 HX5.out.p; have hq1 := cell_1 HX5.out.p; have hq2 := cell_2 HX5.out.p; have hq3 := cell_3 HX5.out.p; have ht0 := HX5.out.st.tab.c0; have ht1 := HX5.out.st.tab.c1
   go_wp2
   have hi0 := eq_true (show (0 : Int) ≤ (i : Int) by omega)
   have hi64 := eq_true (show (i : Int) < 64 by have := HI.out.1; have := HW.out.n1; omega)
   have hb1 : w5.cell? ⟨gb, 1 + i, none⟩ = some (.bool (cm.getD i false)) := (HX5.out.st.ops _ HY.out).bit i HI.out.1
   cases hcm : cm.getD i false with
   | true =>
    rw [hcm] at hb1
    go_quiet (fail)
    have HX6 := Aside0.mk (HX5.out.drewN nq)
    generalize w5.drewN nq = w6 at HX6 ⊢
    go_wp2
    go_ret3
    exact ⟨_, false, _, fl, T, clock, rfl, HX6.out.st, HX6.out.fr, fun x hx => .inr ⟨x, hx, rfl⟩, Int.le_refl _, .inl rfl, (fun e => by cases e), fun _ _ hall => by have : id < id := hall _ HY.out; omega⟩
   | false =>
    rw [hcm] at hb1
    go_quiet (fail)
    have HXT := Aside0.mk (HX5.out.drewN nq)
    generalize w5.drewN nq = wt at HXT ⊢
    have HXX : Aside0 ((⟨id, gb, bo, cm⟩ : Op) ∈ T ∧ cm.getD i false = false) := ⟨HY.out, hcm⟩
    have HXF : HeadF T T fl fl id := ⟨fun z hz => .inr ⟨z, hz, rfl⟩, Int.le_refl _, by omega, .inl rfl⟩
    have hq0 := cell_0 HXT.out.p; have hq1 := cell_1 HXT.out.p; have hq2 := cell_2 HXT.out.p; have hq3 := cell_3 HXT.out.p; have ht0 := HXT.out.st.tab.c0; have ht1 := HXT.out.st.tab.c1
    go_wp2_with (first
     | ((with_reducible refine gate_dst (N := 74) rfl ?_); refine wpList_load_mid rfl 60 (.tmp 3) rfl gp 0 rfl [.int .u64 id, .int .i64 (i : Int), .int .i64 (n : Int), .slice A L c] _ HXT.out.p.range Tryz.underlying60 rfl size60 ?_)
     | ((with_reducible refine gate_dst (N := 9) rfl ?_); refine alloc_v rfl rfl zero60 ?hr ?_; (case hr => rfl); intro go hg wa hb hw; have HXa := Aside0.mk (HXT.out.below hw); have HGa : Aside0 (go ≠ gp ∧ w.heap.size ≤ go) := ⟨by have := blk_lt HXT.out.p; omega, by have := HXT.out.fr.size; omega⟩; have HOa : Aside0 (wa.heap[go]? = some (.cells #[.int .u64 0, .int .i64 0, .int .i64 0, .slice none 0 0] 60 (0, 0))) := ⟨hb⟩; clear hb hw hg)
     | (refine store_row (t := 60) (e := 60) (g := go) (cells := #[.int .u64 id, .int .i64 (i : Int), .int .i64 (n : Int), .slice A L c]) rfl rfl rfl rfl rfl HOa.out size60 rfl (by simp [Value.oneCell']) ?_; intro wb hb hf; have HXb := Aside0.mk (HXa.out.far HOa.out hf HGa.out.1 HGa.out.2); have HOb : Aside0 (PBox wb go id i n A L c) := ⟨hb⟩; clear hb hf; have hq0 := cell_0 HXb.out.p; have hq1 := cell_1 HXb.out.p; have hq2 := cell_2 HXb.out.p; have hq3 := cell_3 HXb.out.p; have ht0 := HXb.out.st.tab.c0; have ht1 := HXb.out.st.tab.c1)
     | (go_at_call 29; refine (Go.Proofs.YteadamkkbgnpeaaGreat.L.clone_H ((g id).getD i []) L A c HL.out.1 HXb.out.C.2.1 (by have := HP.out.2.2.1; have := HL.out.1; omega) _ HXb.out.C.2.2).mono ?_; rintro e wc ⟨v, rfl, hr, hw⟩; have hy := Byt.of_R hr; obtain ⟨A6, c6, rfl, _, _⟩ := Kd.R_reads hr; rw [HL.out.1] at hy ⊢; have HVc : Aside0 (Byt 0 wc (.slice A6 L c6) ((g id).getD i [])) := ⟨hy.lower (Nat.zero_le _)⟩; have HXc := Aside0.mk (HXb.out.below hw); have HOc : Aside0 (PBox wc go id i n A L c) := ⟨(hw.block go (blk_lt HOb.out)).trans HOb.out⟩; have hs3 := cell_3 HOc.out; have hf3 := blk_frozen HOc.out 3; clear hr hw hy))
    have hF := (Fr.refl wc (fun k => k = go)).setCell (p := ⟨go, 3, none⟩) (.inl rfl) (.slice A6 L c6)
    have HXd : Aside0 (PS g N0 w (wc.setCell ⟨go, 3, none⟩ (.slice A6 L c6)).drew gt gm fl T (clock) gp id i n A L c ∧ PBox (wc.setCell ⟨go, 3, none⟩ (.slice A6 L c6)).drew go id i n A6 L c6 ∧ Byt 0 (wc.setCell ⟨go, 3, none⟩ (.slice A6 L c6)).drew (.slice A6 L c6) ((g id).getD i [])) := ⟨(HXc.out.far HOc.out hF HGa.out.1 HGa.out.2).below (below_drew (Below.refl _ _)), by have := blk_set HOc.out 3 (.slice A6 L c6); show (wc.setCell ⟨go, 3, none⟩ (.slice A6 L c6)).heap[go]? = _; simpa using this, (HVc.out.fr hF (fun k e => by rw [e]; exact T5.not HOc.out (by decide))).below (below_drew (Below.refl _ _))⟩
    clear hF
    have hi0 := eq_true (show (0 : Int) ≤ (i : Int) by omega)
    have hi64 := eq_true (show (i : Int) < 64 by have := HI.out.1; have := HW.out.n1; omega)
    have hi65 := eq_true (show i < 64 by have := HI.out.1; have := HW.out.n1; omega)
    refine start_ (n := 15) (S := fun w' => w'.heap[go]? = some (.cells #[.int .u64 id, .int .i64 (i : Int), .int .i64 (n : Int), .slice A6 L c6] 60 (0, 0)) ∧ w'.cell? ⟨gp, 1, none⟩ = some (.int .i64 (i : Int))) (ds := [14]) #[false, false, false, false, false, false, false, false, false, false, false, false, false, false, false] (by kernel_rfl) rfl rfl ⟨HXd.out.2.1, cell_1 HXd.out.1.p⟩ (fun hHeld => ?_)
    refine with_tabW J_put.tab20 J_put.bits20 (fun HT_ HW_ => ?_)
    generalize (wc.setCell ⟨go, 3, none⟩ (.slice A6 L c6)).drew = wd at HXd hHeld ⊢
    refine pure_ (i := 0) (N := some 79) (v := ?_) (a' := ?_) #[true, false, false, false, false, false, false, false, false, false, false, false, false, false, false] rfl rfl (any_of HT_.out (by kernel_rfl)) (fun _ _ _ h => h) (Or.inl ⟨by rfl, ?_⟩) ?_ ?_
    rotate_left
    ·intro w'
     go_simp
     with_reducible rfl
    rotate_left
    ·simp only [Act.put, List.setIfInBounds_toArray, List.set_cons_zero, List.set_cons_succ, i64_w, i32_w]
     rfl
    refine pure_ (i := 1) (N := some 80) (v := ?_) (a' := ?_) #[true, true, false, false, false, false, false, false, false, false, false, false, false, false, false] rfl rfl (any_of HT_.out (by kernel_rfl)) (fun _ _ _ h => h) (Or.inl ⟨by rfl, ?_⟩) ?_ ?_
    rotate_left
    ·intro w'
     go_simp
     with_reducible rfl
    rotate_left
    ·simp only [Act.put, List.setIfInBounds_toArray, List.set_cons_zero, List.set_cons_succ, i64_w, i32_w]
     rfl
    refine pure_ (i := 3) (N := some 82) (v := ?_) (a' := ?_) #[true, true, false, true, false, false, false, false, false, false, false, false, false, false, false] rfl rfl (any_of HT_.out (by kernel_rfl)) (fun _ _ _ h => h) (Or.inl ⟨by rfl, ?_⟩) ?_ ?_
    rotate_left
    ·intro w'
     go_simp
     with_reducible rfl
    rotate_left
    ·simp only [Act.put, List.setIfInBounds_toArray, List.set_cons_zero, List.set_cons_succ, i64_w, i32_w]
     rfl
    refine pure_ (i := 4) (N := some 83) (v := ?_) (a' := ?_) #[true, true, false, true, true, false, false, false, false, false, false, false, false, false, false] rfl rfl (any_of HT_.out (by kernel_rfl)) (fun _ _ _ h => h) (Or.inl ⟨by rfl, ?_⟩) ?_ ?_
    rotate_left
    ·intro w'
     go_simp
     with_reducible rfl
    rotate_left
    ·simp only [Act.put, List.setIfInBounds_toArray, List.set_cons_zero, List.set_cons_succ, i64_w, i32_w]
     rfl
    refine pure_ (i := 7) (N := some 86) (v := ?_) (a' := ?_) #[true, true, false, true, true, false, false, true, false, false, false, false, false, false, false] rfl rfl (any_of HT_.out (by kernel_rfl)) (fun _ _ _ h => h) (Or.inl ⟨by rfl, ?_⟩) ?_ ?_
    rotate_left
    ·intro w'
     go_simp
     with_reducible rfl
    rotate_left
    ·simp only [Act.put, List.setIfInBounds_toArray, List.set_cons_zero, List.set_cons_succ, i64_w, i32_w]
     rfl
    refine pure_ (i := 8) (N := some 87) (v := ?_) (a' := ?_) #[true, true, false, true, true, false, false, true, true, false, false, false, false, false, false] rfl rfl (any_of HT_.out (by kernel_rfl)) (fun _ _ _ h => h) (Or.inl ⟨by rfl, ?_⟩) ?_ ?_
    rotate_left
    ·intro w'
     go_simp
     with_reducible rfl
    rotate_left
    ·simp only [Act.put, List.setIfInBounds_toArray, List.set_cons_zero, List.set_cons_succ, i64_w, i32_w]
     rfl
    refine pure_ (i := 11) (N := some 89) (v := ?_) (a' := ?_) #[true, true, false, true, true, false, false, true, true, false, false, true, false, false, false] rfl rfl (any_of HT_.out (by kernel_rfl)) (fun _ _ _ h => h) (Or.inl ⟨by rfl, ?_⟩) ?_ ?_
    rotate_left
    ·intro w'
     go_simp
     with_reducible rfl
    rotate_left
    ·simp only [Act.put, List.setIfInBounds_toArray, List.set_cons_zero, List.set_cons_succ, i64_w, i32_w]
     rfl
    refine pure_ (i := 12) (N := some 90) (v := ?_) (a' := ?_) #[true, true, false, true, true, false, false, true, true, false, false, true, true, false, false] rfl rfl (any_of HT_.out (by kernel_rfl)) (fun _ _ _ h => h) (Or.inl ⟨by rfl, ?_⟩) ?_ ?_
    rotate_left
    ·intro w'
     go_simp
     with_reducible rfl
    rotate_left
    ·simp only [Act.put, List.setIfInBounds_toArray, List.set_cons_zero, List.set_cons_succ, i64_w, i32_w]
     rfl
    refine take_ (i := 2) (N := some 81) (v := ?_) (a' := ?_) #[true, true, true, true, true, false, false, true, true, false, false, true, true, false, false] rfl rfl (take_ofW HT_.out HW_.out (by kernel_rfl)) (fun _ _ _ h => h) (Or.inl ⟨by rfl, ?_⟩) hHeld ?_ ?_
    rotate_left
    ·rintro w' ⟨s0, s1⟩
     go_simp
     with_reducible rfl
    rotate_left
    ·simp only [Act.put, List.setIfInBounds_toArray, List.set_cons_zero, List.set_cons_succ, i64_w, i32_w]
     rfl
    refine pure_ (i := 9) (N := some 88) (v := ?_) (a' := ?_) #[true, true, true, true, true, false, false, true, true, true, false, true, true, false, false] rfl rfl (any_of HT_.out (by kernel_rfl)) (fun _ _ _ h => h) (Or.inl ⟨by rfl, ?_⟩) ?_ ?_
    rotate_left
    ·intro w'
     go_simp
     with_reducible rfl
    rotate_left
    ·simp only [Act.put, List.setIfInBounds_toArray, List.set_cons_zero, List.set_cons_succ, i64_w, i32_w]
     rfl
    refine take_ (i := 5) (N := some 84) (v := ?_) (a' := ?_) #[true, true, true, true, true, true, false, true, true, true, false, true, true, false, false] rfl rfl (take_ofW HT_.out HW_.out (by kernel_rfl)) (fun _ _ _ h => h) (Or.inl ⟨by rfl, ?_⟩) hHeld ?_ ?_
    rotate_left
    ·rintro w' ⟨s0, s1⟩
     go_simp
     with_reducible rfl
    rotate_left
    ·simp only [Act.put, List.setIfInBounds_toArray, List.set_cons_zero, List.set_cons_succ, i64_w, i32_w]
     rfl
    refine take_ (i := 6) (N := some 85) (v := .agg (#[.int .u64 id, .int .i64 (i : Int), .int .i64 (n : Int), .slice A6 L c6])) (a' := ?_) #[true, true, true, true, true, true, true, true, true, true, false, true, true, false, false] rfl rfl (take_ofW HT_.out HW_.out (by kernel_rfl)) (fun _ _ _ h => h) (yields_row (by rfl) 60 (.tmp 9) rfl go rfl 60 (#[.int .u64 id, .int .i64 (i : Int), .int .i64 (n : Int), .slice A6 L c6]) _ (fun _ s => s.1) Tryz.underlying60 rfl size60) hHeld ?_ ?_
    rotate_left
    ·simp only [Act.put, List.setIfInBounds_toArray, List.set_cons_zero, List.set_cons_succ, i64_w, i32_w]
     rfl
    refine one_ (i := 10) (N := none) #[true, true, true, true, true, true, true, true, true, true, true, true, true, false, false] rfl rfl (one_of HT_.out (by kernel_rfl)) (by decide) (fun K hK => ?_)
    obtain ⟨cs, hcs, hCC⟩ := HXd.out.1.st.ops _ HXX.out.1
    have hcb : wd.cell? ⟨gb, 1 + i, none⟩ = some (.bool (cm.getD i false)) := (blk_cell hcs (1 + i)).trans (by simpa using hCC.bit i HI.out.1)
    have hfb : wd.frozen? ⟨gb, 1 + i, none⟩ = false := blk_frozen hcs (1 + i)
    have hcs : wd.heap[gb]? = _ := hcs
    refine skip_ (w1 := (wd.setCell ⟨gb, 1 + i, none⟩ (.bool true))) (by rfl) rfl ?_ ?_
    ·go_simp
    have HXe : Aside0 ((wd.setCell ⟨gb, 1 + i, none⟩ (.bool true)).heap[gb]? = some (.cells (cs.set (1 + i) (.bool true)).toArray 113 (0, 0)) ∧ Fr wd (wd.setCell ⟨gb, 1 + i, none⟩ (.bool true)) (fun k => k = gb) ∧ OpenC wd cs id (g id) cm) := ⟨by have := blk_set hcs (1 + i) (.bool true); simpa using this, (Fr.refl wd (fun k => k = gb)).setCell (p := ⟨gb, 1 + i, none⟩) (.inl rfl) _, hCC⟩
    have HXp : Aside0 (PBox (wd.setCell ⟨gb, 1 + i, none⟩ (.bool true)) go id i n A6 L c6 ∧ PBox (wd.setCell ⟨gb, 1 + i, none⟩ (.bool true)) gp id i n A L c) := ⟨HXe.out.2.1.blk HXd.out.2.1 (ne_objs HXd.out.2.1 hcs (by intro e; injection e with _ e; exact absurd e (by decide))), HXe.out.2.1.blk HXd.out.1.p (ne_objs HXd.out.1.p hcs (by intro e; injection e with _ e; exact absurd e (by decide)))⟩
    clear hcb hfb hcs hCC
    generalize (wd.setCell ⟨gb, 1 + i, none⟩ (.bool true)) = we at HXe HXp ⊢
    refine hK.out _ _ ⟨HXp.out.1, cell_1 HXp.out.2⟩ (fun hHeld => ?_)
    clear hK K
    refine pure_ (i := 13) (N := some 91) (v := ?_) (a' := ?_) #[true, true, true, true, true, true, true, true, true, true, true, true, true, true, false] rfl rfl (any_of HT_.out (by kernel_rfl)) (fun _ _ _ h => h) (Or.inl ⟨by rfl, ?_⟩) ?_ ?_
    rotate_left
    ·intro w'
     go_simp
     with_reducible rfl
    rotate_left
    ·simp only [Act.put, List.setIfInBounds_toArray, List.set_cons_zero, List.set_cons_succ, i64_w, i32_w]
     rfl
    refine last_ (i := 14) (N := none) #[true, true, true, true, true, true, true, true, true, true, true, true, true, true, true] rfl rfl (one_of HT_.out (by kernel_rfl)) (by decide) (fun K hK => ?_)
    refine store_part_step (t := 60) (e := 113) (g := gb) (off := 65 + i * 4) (cur := cs.set (1 + i) (.bool true)) (cells := #[.int .u64 id, .int .i64 (i : Int), .int .i64 (n : Int), .slice A6 L c6]) rfl rfl rfl rfl rfl HXe.out.1 size60 (by rw [List.length_set, HXe.out.2.2.len]; have := HI.out.1; have := HW.out.n1; show _ + 4 ≤ _; omega) (by simp [Value.oneCell']) ?_
    intro wf hb hf
    have HXf : Aside0 (wf.heap[gb]? = some (.cells (splice (cs.set (1 + i) (.bool true)) (65 + i * 4) (#[.int .u64 id, .int .i64 (i : Int), .int .i64 (n : Int), .slice A6 L c6] : Array Value).toList).toArray 113 (0, 0)) ∧ Fr wd wf (fun k => k = gb)) := ⟨hb, HXe.out.2.1.trans hf (fun k e => .inl e)⟩
    clear hb hf
    refine hK.out _ _ ?_
    clear hK K
    refine done_ (done_of HT_.out (by kernel_rfl)) ?_

    have hsp : ∀ k, k < 322 → 65 + 4 * 4 ≤ k → (splice (cs.set (1 + i) (.bool true)) (65 + i * 4) (#[.int .u64 id, .int .i64 (i : Int), .int .i64 (n : Int), .slice A6 L c6] : Array Value).toList)[k]? = cs[k]? := fun k hk1 hk2 => by
     rw [splice_get _ _ _ _ (by rw [List.length_set, HXe.out.2.2.len]; have := HI.out.1; have := HW.out.n1; show _ + 4 ≤ _; omega), if_neg (by have := HI.out.1; have := HW.out.n1; show ¬ (_ ∧ _ < _ + 4); omega), List.getElem?_set, if_neg (by have := HI.out.1; have := HW.out.n1; omega)]
    obtain ⟨m, hm⟩ : ∃ m, missing cm = m + 1 := ⟨missing cm - 1, by have := missing_set cm i (by rw [HXe.out.2.2.n]; exact HI.out.1) HXX.out.2; omega⟩
    have HM : Aside0 (missing cm = m + 1 ∧ missing (cm.set i true) = m) := ⟨hm, by have := missing_set cm i (by rw [HXe.out.2.2.n]; exact HI.out.1) HXX.out.2; omega⟩
    have hleft : wf.cell? ⟨gb, 321, none⟩ = some (.int .i64 ((m : Int) + 1)) := by
     rw [blk_cell HXf.out.1 321, List.getElem?_toArray, hsp 321 (by omega) (by omega), HXe.out.2.2.left, hm]
     rfl
    have hlf := blk_frozen HXf.out.1 321
    have hwm : wrap64 (m : Int) = (m : Int) := by rw [wrap64_id (by have := missing_le cm; have := HXe.out.2.2.n; have := HW.out.n1; omega)]
    have hset := blk_set HXf.out.1 321 (.int .i64 (m : Int))
    have hfg := HXf.out.2.trans ((Fr.refl wf (fun k => k = gb)).setCell (p := ⟨gb, 321, none⟩) (.inl rfl) (.int .i64 (m : Int))) (fun k e => .inl e)
    have HXg : Aside0 (PS g N0 w (wf.setCell ⟨gb, 321, none⟩ (.int .i64 (m : Int))) gt gm fl (cameT T gb i) (clock) gp id i n A L c ∧ OpenAt (wf.setCell ⟨gb, 321, none⟩ (.int .i64 (m : Int))) gb id (g id) (cm.set i true)) := by
     have ho : OpenAt (wf.setCell ⟨gb, 321, none⟩ (.int .i64 (m : Int))) gb id (g id) (cm.set i true) := by
      have h1 := HXe.out.2.2.put HW.out.n1.2 i HI.out.1 HXX.out.2 _ HXd.out.2.2
      rw [show ((missing cm : Int) - 1) = (m : Int) by omega, HN.out] at h1
      refine ⟨_, ?_, h1.fr hfg (fun k e => by rw [e]; exact (HXd.out.1.st.foot_b HXX.out.1).2.not5)⟩
      rw [hset]
      unfold putC
      simp
     exact ⟨HXd.out.1.step HI.out.2 (hfg.mono (fun k e => by rw [e]; exact HXd.out.1.st.foot_b HXX.out.1)) (HXd.out.1.st.put HXX.out.1 i hfg ho), ho⟩
    clear hset hfg hsp
    go_wp2
    ·rename_i hm0
     generalize wf.setCell ⟨gb, 321, none⟩ (.int .i64 (m : Int)) = wg at HXg ⊢
     go_ret3
     exact ⟨_, false, _, fl, _, _, rfl, HXg.out.1.st, HXg.out.1.fr, fun z hz => (let ⟨y, hy, e, _⟩ := cameT_mem hz; (HXF.ids y hy).elim (fun h => .inl (e.symm.trans h)) (fun ⟨u, hu, e2⟩ => .inr ⟨u, hu, e2.trans e⟩)), HXF.le1, HXF.from_.elim .inl (fun h => .inr (.inr h)), (fun e => by cases e), fun h1 _ _ => by have := missing_le cm; have := HXe.out.2.2.n; have := HM.out.1; omega⟩
    ·rename_i hm0
     have hm1 : m = 0 := by omega
     generalize wf.setCell ⟨gb, 321, none⟩ (.int .i64 (m : Int)) = wg at HXg ⊢
     have hn0 := eq_true (show (0 : Int) ≤ (n : Int) by omega)
     have hn64 := eq_true (show (n : Int) ≤ 64 by have := HN.out; have := HW.out.n1; omega)
     have HXh : Aside0 (PS g N0 w wg.drew gt gm fl (cameT T gb i) (clock) gp id i n A L c ∧ OpenAt wg.drew gb id (g id) (cm.set i true)) := ⟨HXg.out.1.below (below_drew (Below.refl _ _)), HXg.out.2.below (below_drew (Below.refl _ _))⟩
     refine start_ (n := 14) (S := fun w' => w'.cell? ⟨gb, 0, none⟩ = some (.int .i64 (n : Int))) (ds := [8]) #[false, false, false, false, false, false, false, false, false, false, false, false, false, false] (by kernel_rfl) rfl rfl ((by rw [← HN.out]; exact HXh.out.2.count)) (fun hHeld => ?_)
     refine with_tabW J_put.tab24 J_put.bits24 (fun HT_ HW_ => ?_)
     generalize wg.drew = wg2 at HXh hHeld ⊢
     refine pure_ (i := 0) (N := some 105) (v := ?_) (a' := ?_) #[true, false, false, false, false, false, false, false, false, false, false, false, false, false] rfl rfl (any_of HT_.out (by kernel_rfl)) (fun _ _ _ h => h) (Or.inl ⟨by rfl, ?_⟩) ?_ ?_
     rotate_left
     ·intro w'
      go_simp
      with_reducible rfl
     rotate_left
     ·simp only [Act.put, List.setIfInBounds_toArray, List.set_cons_zero, List.set_cons_succ, i64_w, i32_w]
      rfl
     refine pure_ (i := 1) (N := some 106) (v := ?_) (a' := ?_) #[true, true, false, false, false, false, false, false, false, false, false, false, false, false] rfl rfl (any_of HT_.out (by kernel_rfl)) (fun _ _ _ h => h) (Or.inl ⟨by rfl, ?_⟩) ?_ ?_
     rotate_left
     ·intro w'
      go_simp
      with_reducible rfl
     rotate_left
     ·simp only [Act.put, List.setIfInBounds_toArray, List.set_cons_zero, List.set_cons_succ, i64_w, i32_w]
      rfl
     refine pure_ (i := 2) (N := some 107) (v := ?_) (a' := ?_) #[true, true, true, false, false, false, false, false, false, false, false, false, false, false] rfl rfl (any_of HT_.out (by kernel_rfl)) (fun _ _ _ h => h) (Or.inl ⟨by rfl, ?_⟩) ?_ ?_
     rotate_left
     ·intro w'
      go_simp
      with_reducible rfl
     rotate_left
     ·simp only [Act.put, List.setIfInBounds_toArray, List.set_cons_zero, List.set_cons_succ, i64_w, i32_w]
      rfl
     refine pure_ (i := 3) (N := some 108) (v := ?_) (a' := ?_) #[true, true, true, true, false, false, false, false, false, false, false, false, false, false] rfl rfl (any_of HT_.out (by kernel_rfl)) (fun _ _ _ h => h) (Or.inl ⟨by rfl, ?_⟩) ?_ ?_
     rotate_left
     ·intro w'
      go_simp
      with_reducible rfl
     rotate_left
     ·simp only [Act.put, List.setIfInBounds_toArray, List.set_cons_zero, List.set_cons_succ, i64_w, i32_w]
      rfl
     refine pure_ (i := 4) (N := some 109) (v := ?_) (a' := ?_) #[true, true, true, true, true, false, false, false, false, false, false, false, false, false] rfl rfl (any_of HT_.out (by kernel_rfl)) (fun _ _ _ h => h) (Or.inl ⟨by rfl, ?_⟩) ?_ ?_
     rotate_left
     ·intro w'
      go_simp
      with_reducible rfl
     rotate_left
     ·simp only [Act.put, List.setIfInBounds_toArray, List.set_cons_zero, List.set_cons_succ, i64_w, i32_w]
      rfl
     refine pure_ (i := 5) (N := some 110) (v := ?_) (a' := ?_) #[true, true, true, true, true, true, false, false, false, false, false, false, false, false] rfl rfl (any_of HT_.out (by kernel_rfl)) (fun _ _ _ h => h) (Or.inl ⟨by rfl, ?_⟩) ?_ ?_
     rotate_left
     ·intro w'
      go_simp
      with_reducible rfl
     rotate_left
     ·simp only [Act.put, List.setIfInBounds_toArray, List.set_cons_zero, List.set_cons_succ, i64_w, i32_w]
      rfl
     refine take_ (i := 6) (N := some 111) (v := ?_) (a' := ?_) #[true, true, true, true, true, true, true, false, false, false, false, false, false, false] rfl rfl (take_ofW HT_.out HW_.out (by kernel_rfl)) (fun _ _ _ h => h) (Or.inl ⟨by rfl, ?_⟩) hHeld ?_ ?_
     rotate_left
     ·intro w' s0
      go_simp
      with_reducible rfl
     rotate_left
     ·simp only [Act.put, List.setIfInBounds_toArray, List.set_cons_zero, List.set_cons_succ, i64_w, i32_w]
      rfl
     refine pure_ (i := 7) (N := some 112) (v := ?_) (a' := ?_) #[true, true, true, true, true, true, true, true, false, false, false, false, false, false] rfl rfl (any_of HT_.out (by kernel_rfl)) (fun _ _ _ h => h) (Or.inl ⟨by rfl, ?_⟩) ?_ ?_
     rotate_left
     ·intro w'
      go_simp
      with_reducible rfl
     rotate_left
     ·simp only [Act.put, List.setIfInBounds_toArray, List.set_cons_zero, List.set_cons_succ, i64_w, i32_w]
      rfl
     refine last_ (i := 8) (N := some 113) #[true, true, true, true, true, true, true, true, true, false, false, false, false, false] rfl rfl (one_of HT_.out (by kernel_rfl)) (by decide) (fun K hK => ?_)
     refine goes_ Tryz.func43 (by kernel_rfl) rfl #[.slice (some ⟨gb, 65, none⟩) n 64] (by rfl) rfl rfl (by simp only [List.map_toArray, List.map_cons, List.map_nil]; rfl) ?_
     with_reducible refine (join_n (g := g) (b := gb) HW.out HN.out _ (HXh.out.2.row (by rw [HM.out.2]; exact hm1))).mono ?_
     rintro e wh ⟨v, rfl, hr, hw⟩
     refine ⟨_, rfl, ?_⟩
     have HXj : Aside0 (PS g N0 w wh gt gm fl (cameT T gb i) (clock) gp id i n A L c ∧ Byt w.heap.size wh v (g id).flatten) := ⟨HXh.out.1.below hw, (Byt.of_R hr).lower (by have := HXh.out.1.fr.size; omega)⟩
     clear hr hw
     refine hK.out _ _ ?_
     clear hK K
     refine norm_ (a' := ?_) ?_ ?_
     rotate_left
     ·show Act.put _ (some 113) _ = _
      simp only [Act.put, List.setIfInBounds_toArray, List.set_cons_zero, List.set_cons_succ, i64_w, i32_w]
      rfl
     refine pure_ (i := 9) (N := some 104) (v := ?_) (a' := ?_) #[true, true, true, true, true, true, true, true, true, true, false, false, false, false] rfl rfl (any_of HT_.out (by kernel_rfl)) (fun _ _ _ h => h) (Or.inl ⟨by rfl, ?_⟩) ?_ ?_
     rotate_left
     ·intro w'
      go_simp
      with_reducible rfl
     rotate_left
     ·simp only [Act.put, List.setIfInBounds_toArray, List.set_cons_zero, List.set_cons_succ, i64_w, i32_w]
      rfl
     refine pure_ (i := 10) (N := some 114) (v := ?_) (a' := ?_) #[true, true, true, true, true, true, true, true, true, true, true, false, false, false] rfl rfl (any_of HT_.out (by kernel_rfl)) (fun _ _ _ h => h) (Or.inl ⟨by rfl, ?_⟩) ?_ ?_
     rotate_left
     ·intro w'
      go_simp
      with_reducible rfl
     rotate_left
     ·simp only [Act.put, List.setIfInBounds_toArray, List.set_cons_zero, List.set_cons_succ, i64_w, i32_w]
      rfl
     refine pure_ (i := 11) (N := some 115) (v := ?_) (a' := ?_) #[true, true, true, true, true, true, true, true, true, true, true, true, false, false] rfl rfl (any_of HT_.out (by kernel_rfl)) (fun _ _ _ h => h) (Or.inl ⟨by rfl, ?_⟩) ?_ ?_
     rotate_left
     ·intro w'
      go_simp
      with_reducible rfl
     rotate_left
     ·simp only [Act.put, List.setIfInBounds_toArray, List.set_cons_zero, List.set_cons_succ, i64_w, i32_w]
      rfl
     refine pure_ (i := 12) (N := some 10) (v := ?_) (a' := ?_) #[true, true, true, true, true, true, true, true, true, true, true, true, true, false] rfl rfl (any_of HT_.out (by kernel_rfl)) (fun _ _ _ h => h) (Or.inl ⟨by rfl, ?_⟩) ?_ ?_
     rotate_left
     ·intro w'
      go_simp
      with_reducible rfl
     rotate_left
     ·simp only [Act.put, List.setIfInBounds_toArray, List.set_cons_zero, List.set_cons_succ, i64_w, i32_w]
      rfl
     refine pure_ (i := 13) (N := some 11) (v := ?_) (a' := ?_) #[true, true, true, true, true, true, true, true, true, true, true, true, true, true] rfl rfl (any_of HT_.out (by kernel_rfl)) (fun _ _ _ h => h) (Or.inl ⟨by rfl, ?_⟩) ?_ ?_
     rotate_left
     ·intro w'
      go_simp
      with_reducible rfl
     rotate_left
     ·simp only [Act.put, List.setIfInBounds_toArray, List.set_cons_zero, List.set_cons_succ, i64_w, i32_w]
      rfl
     refine done_ (done_of HT_.out (by kernel_rfl)) ?_

     have hq0 := cell_0 HXj.out.1.p; have ht0 := HXj.out.1.st.tab.c0; have ht1 := HXj.out.1.st.tab.c1
     have hidw := u64_add1 id (by have := HP.out.1; omega)
     go_wp2_with (first
      | (go_at_call 44; refine (raise_calls gt gm fl (id + 1) _ (clock) _ HXj.out.1.st.tab).mono ?_; rintro e wk ⟨rfl, ht, hf⟩; have HXk : Aside0 (TabSt g N0 wk gt gm (id + 1) ((cameT T gb i).filter (fun x => decide (id + 1 ≤ x.id))) (clock) ∧ Fr w wk (Foot N0 w) ∧ Byt w.heap.size wk v (g id).flatten) := ⟨HXj.out.1.st.raise ht hf, HXj.out.1.fr.trans (Fr.foot HXj.out.1.st hf) (fun k hk => foot_back (S := fun _ => False) HXj.out.1.fr HI.out.2 hk), HXj.out.2.fr (Fr.foot HXj.out.1.st hf) (fun k hk => hk.2.not5)⟩; clear ht hf))
     go_ret3
     exact ⟨_, true, _, id + 1, _, _, rfl, HXk.out.1, HXk.out.2.1, fun z hz => (let ⟨y, hy, e, _⟩ := cameT_mem (List.mem_filter.mp hz).1; (HXF.ids y hy).elim (fun h => .inl (e.symm.trans h)) (fun ⟨u, hu, e2⟩ => .inr ⟨u, hu, e2.trans e⟩)), (by have := HXF.le1; have := HXF.le2; omega), .inr (.inl rfl), fun _ => ⟨rfl, (by have := HXF.le1; have := HXF.le2; omega), rfl, HXk.out.2.2⟩, fun _ _ _ => rfl⟩
end Go.Proofs.YteadamkkbgnpeaaGreat.J
end OfJ9
section OfK0
namespace Go.Proofs.YteadamkkbgnpeaaGreat.PeerFacts
open Go.RowKit QTC YteadamkkbgnpeaaGreatW.PrintWords YteadamkkbgnpeaaGreatW.PrintLast YteadamkkbgnpeaaGreatW.PrintMore
theorem u64w {n : Int} (h0 : 0 ≤ n) (h1 : n ≤ 18446744073709551615) : IntKind.u64.wrap n = n := by rw [IntKind.wrap_u64]; omega
theorem test_bit (b d : Nat) (hb : b < 2 ^ 64) (hd : d < 64) : ((Go.bits .and .u64 (shr .u64 (b : Int) (d : Int)) 1) == 1) = b.testBit d := by
 have e : shr .u64 (b : Int) (d : Int) = ((b >>> d : Nat) : Int) := by
  unfold shr
  rw [Int.toNat_natCast, Nat.min_eq_left (show d ≤ IntKind.u64.bits from by show d ≤ 64; omega), Nat.shiftRight_eq_div_pow]
  simp
 have hs : b >>> d < 18446744073709551616 := by
  rw [Nat.shiftRight_eq_div_pow]
  exact Nat.lt_of_le_of_lt (Nat.div_le_self _ _) hb
 rw [e, show (1 : Int) = ((1 : Nat) : Int) from rfl, Go.u64_and_nat _ 1 hs (by omega), Nat.testBit, Nat.and_comm]
 have : 1 &&& b >>> d = 0 ∨ 1 &&& b >>> d = 1 := by
  have := Nat.and_le_left (n := 1) (m := b >>> d)
  omega
 rcases this with h | h <;> rw [h] <;> rfl
theorem or_bit (b d : Nat) (hb : b < 2 ^ 64) (hd : d < 64) : Go.bits .or .u64 (b : Int) (shl .u64 1 (d : Int)) = ((b ||| 1 <<< d : Nat) : Int) := by
 have hp : (2 : Nat) ^ d ≤ 2 ^ 63 := Nat.pow_le_pow_right (by omega) (by omega)
 have e : shl .u64 1 (d : Int) = ((1 <<< d : Nat) : Int) := by
  unfold shl
  rw [Int.toNat_natCast, Nat.min_eq_left (show d ≤ IntKind.u64.bits from by show d ≤ 64; omega), IntKind.wrap_u64, Nat.one_shiftLeft]
  have h2 : ((2 ^ d : Nat) : Int) = (2 : Int) ^ d := by simp
  rw [← h2, Int.one_mul]; generalize 2 ^ d = z at *; omega
 rw [e, Go.u64_or_nat _ _ hb (by rw [Nat.one_shiftLeft]; omega)]
theorem shl_bits (b u : Nat) (hu : u < 64) : Go.bits .or .u64 (shl .u64 (b : Int) (u : Int)) 1 = (((b <<< u) % 2 ^ 64 ||| 1 : Nat) : Int) := by
 have e : shl .u64 (b : Int) (u : Int) = (((b <<< u) % 2 ^ 64 : Nat) : Int) := by
  unfold shl
  rw [Int.toNat_natCast, Nat.min_eq_left (show u ≤ IntKind.u64.bits from by show u ≤ 64; omega), IntKind.wrap_u64, Nat.shiftLeft_eq]
  have h2 : ((2 ^ u : Nat) : Int) = (2 : Int) ^ u := by simp
  rw [← h2]; omega
 rw [e, show (1 : Int) = ((1 : Nat) : Int) from rfl, Go.u64_or_nat _ 1 (Nat.mod_lt _ (by decide)) (by omega)]
theorem or_01 : Go.bits .or .u64 0 1 = ((1 : Nat) : Int) := by decide +kernel
/-- What was heard: nothing, or a greatest nonce whose own bit is set. -/
def J (N : Int) (b : Nat) (f : Int) : Prop := N = 0 ∧ b = 0 ∧ f = 0 ∨ 1 ≤ N ∧ N ≤ 9223372036854775807 ∧ b < 2 ^ 64 ∧ b.testBit 0 = true
/-- Was a nonce heard? -/
def hd (N : Int) (b : Nat) (x : Int) : Bool := decide (1 ≤ N) && decide (x ≤ N) && (decide (x = 0) || decide (64 ≤ N - x) || b.testBit (N - x).toNat)
theorem J.lt {N : Int} {b : Nat} {f : Int} (h : J N b f) : b < 2 ^ 64 := by
 rcases h with ⟨_, rfl, _⟩ | ⟨_, _, h, _⟩
 ·decide
 ·exact h
theorem J.bd {N : Int} {b : Nat} {f : Int} (h : J N b f) : 0 ≤ N ∧ N ≤ 9223372036854775807 := by rcases h with ⟨rfl, _⟩ | ⟨h1, h2, _⟩ <;> omega
theorem some_eq {N : Int} {b : Nat} {f : Int} (h : J N b f) : (!(N == 0) || (!((b : Int) == 0) || (!(f == 0)))) = decide (1 ≤ N) := by
 rcases h with ⟨rfl, rfl, rfl⟩ | ⟨h1, _⟩
 ·rfl
 ·rw [decide_eq_true h1, show (N == 0) = false from by simpa using (by omega : ¬ N = 0)]; rfl
theorem heard_eq {N : Int} {b : Nat} {f : Int} (mv x : Int) (k : Nat) (h : J N b f) (hx0 : 0 ≤ x) (hk : 1 ≤ k) :
  peer_Peer_Heard.f k true N b f mv x = some (hd N b x, true, N, (b : Int), f, mv) := by
 obtain ⟨k, rfl⟩ : ∃ j, k = j + 1 := ⟨k - 1, by omega⟩
 have hbd := h.bd
 simp only [peer_Peer_Heard.f, peer_Peer_heard.f, Option.bind_some]; rw [some_eq h]
 by_cases c : 1 ≤ N
 ·rw [if_pos (decide_eq_true c)]
  by_cases c1 : x ≤ N
  ·rw [decide_eq_false (show ¬ x > N by omega)]
   simp only [peer_Peer_Heard.j0, Bool.false_eq_true, if_false]
   by_cases c2 : x = 0
   ·rw [if_pos c2]; subst c2; simp [hd, c]; omega
   ·rw [if_neg c2, u64w (n := N - x) (by omega) (by omega)]
    by_cases c3 : N - x ≥ 64
    ·rw [if_pos c3]; simp [hd, c, c1, show 64 ≤ N - x from c3]
    ·obtain ⟨d, hdd⟩ := Int.eq_ofNat_of_zero_le (show 0 ≤ N - x by omega)
     rw [if_neg c3, if_pos (by omega)]
     have : hd N b x = b.testBit d := by
      have c4 : ¬ ((64 : Int) ≤ (d : Int)) := by omega
      simp [hd, c, c1, c2, hdd, c4]
     rw [this, hdd, test_bit b d h.lt (by omega)]
  ·rw [decide_eq_true (show x > N by omega)]
   simp only [peer_Peer_Heard.j0, if_true]
   simp [hd, c1]
 ·rw [if_neg (by simpa using c)]
  simp only [peer_Peer_Heard.j0, if_true]
  simp [hd, c]
theorem from_eq {N : Int} {b : Nat} {f : Int} (mv : Int) (h : J N b f) : peer_Peer_From.f true N b f mv = some (f, decide (1 ≤ N), true, N, (b : Int), f, mv) := by
 simp only [peer_Peer_From.f, peer_Peer_heard.f, Option.bind_some]; rw [some_eq h]
 by_cases c : 1 ≤ N
 ·rw [if_pos (decide_eq_true c), decide_eq_true c]
 ·rw [if_neg (by simpa using c), decide_eq_false c]
  rcases h with ⟨_, _, rfl⟩ | ⟨h1, _⟩
  ·rfl
  ·omega
/-- The bits behind a new greatest nonce. -/
def up (N : Int) (b : Nat) (x : Int) : Nat := if 64 ≤ x - N then 1 else (b <<< (x - N).toNat) % 2 ^ 64 ||| 1
theorem hear_old {N : Int} {b : Nat} {f : Int} (mv x a : Int) (k : Nat) (h : J N b f) (h0 : 1 ≤ x) (h1 : x ≤ 9223372036854775807) (ho : hd N b x = true) (hk : 2 ≤ k) :
  peer_Peer_Hear.f k true N b f mv x a = some (false, 23, true, N, (b : Int), f, mv) := by
 obtain ⟨k, rfl⟩ : ∃ j, k = j + 1 := ⟨k - 1, by omega⟩
 simp only [peer_Peer_Hear.f, if_true]; rw [if_neg (by omega), decide_eq_false (show ¬ x > 9223372036854775807 by omega)]
 simp only [peer_Peer_Hear.j0, Bool.false_eq_true, if_false]; rw [heard_eq mv x k h (by omega) (by omega)]
 simp only [Option.bind_some]; rw [if_pos ho]
theorem hear_low {N : Int} {b : Nat} {f : Int} (mv x a : Int) (k : Nat) (h : J N b f) (h0 : 1 ≤ x) (h1 : x ≤ N) (ho : hd N b x = false) (hk : 2 ≤ k) :
  peer_Peer_Hear.f k true N b f mv x a = some (false, (0 : Int), true, N, ((b ||| 1 <<< (N - x).toNat : Nat) : Int), f, mv) := by
 obtain ⟨k, rfl⟩ : ∃ j, k = j + 1 := ⟨k - 1, by omega⟩
 have hbd := h.bd
 have hlt : N - x < 64 := by
  have c : 1 ≤ N := by omega
  simp [hd, c, h1] at ho
  omega
 simp only [peer_Peer_Hear.f, if_true]; rw [if_neg (by omega), decide_eq_false (show ¬ x > 9223372036854775807 by omega)]
 simp only [peer_Peer_Hear.j0, Bool.false_eq_true, if_false]; rw [heard_eq mv x k h (by omega) (by omega)]
 simp only [Option.bind_some]; rw [ho, if_neg (by decide), if_pos h1, u64w (n := N - x) (by omega) (by omega), if_pos (by omega)]
 obtain ⟨d, hdd⟩ := Int.eq_ofNat_of_zero_le (show 0 ≤ N - x by omega)
 rw [hdd, or_bit b d h.lt (by omega)]; rfl
theorem hear_new {N : Int} {b : Nat} {f : Int} (mv x a : Int) (k : Nat) (h : J N b f) (h0 : 1 ≤ x) (h1 : x ≤ 9223372036854775807) (hx : N < x) (hk : 2 ≤ k) :
  peer_Peer_Hear.f k true N b f mv x a = some (decide (1 ≤ N) == false || f != a, 0, true, x, (up N b x : Int), a, if 1 ≤ N ∧ ¬ f = a then wrap64 (mv + 1) else mv) := by
 obtain ⟨k, rfl⟩ : ∃ j, k = j + 1 := ⟨k - 1, by omega⟩
 have hbd := h.bd
 have ho : hd N b x = false := by simp [hd, show ¬ x ≤ N by omega]
 simp only [peer_Peer_Hear.f, if_true]; rw [if_neg (by omega), decide_eq_false (show ¬ x > 9223372036854775807 by omega)]
 simp only [peer_Peer_Hear.j0, Bool.false_eq_true, if_false]; rw [heard_eq mv x k h (by omega) (by omega)]
 simp only [Option.bind_some]; rw [ho, if_neg (by decide), if_neg (by omega), from_eq mv h]
 simp only [Option.bind_some]; rw [u64w (n := x - N) (by omega) (by omega), or_01]
 obtain ⟨u, hu⟩ := Int.eq_ofNat_of_zero_le (show 0 ≤ x - N by omega)
 by_cases c : x - N ≥ 64
 ·have eu : up N b x = 1 := by unfold up; rw [if_pos c]
  rw [if_pos c, eu]
  by_cases c1 : 1 ≤ N
  ·rw [decide_eq_true c1, if_pos rfl]
   by_cases c2 : f = a
   ·rw [if_pos c2]; simp [c2]
   ·rw [if_neg c2]; simp [c1, c2]
  ·rw [decide_eq_false c1, if_neg (by decide)]; simp [c1]
 ·have eu : up N b x = (b <<< u) % 2 ^ 64 ||| 1 := by unfold up; rw [if_neg c, hu]; rfl
  rw [if_neg c, if_pos (by omega), eu, hu, shl_bits b u (by omega)]
  by_cases c1 : 1 ≤ N
  ·rw [decide_eq_true c1, if_pos rfl]
   by_cases c2 : f = a
   ·rw [if_pos c2]; simp [c2]
   ·rw [if_neg c2]; simp [c1, c2]
  ·rw [decide_eq_false c1, if_neg (by decide)]; simp [c1]
theorem J_low {N : Int} {b : Nat} {f : Int} {x : Int} (h : J N b f) (h0 : 1 ≤ x) (h1 : x ≤ N) (ho : hd N b x = false) : J N (b ||| 1 <<< (N - x).toNat) f := by
 have hlt : N - x < 64 := by
  have c : 1 ≤ N := by omega
  simp [hd, c, h1] at ho
  omega
 rcases h with ⟨rfl, _⟩ | ⟨a, b', c, d⟩
 ·omega
 ·refine .inr ⟨a, b', ?_, ?_⟩
  ·have hp : (2 : Nat) ^ (N - x).toNat ≤ 2 ^ 63 := Nat.pow_le_pow_right (by omega) (by omega)
   exact Nat.or_lt_two_pow c (by rw [Nat.one_shiftLeft]; omega)
  ·rw [Nat.testBit_or, d]; rfl
theorem J_up {N : Int} {b : Nat} {f : Int} {x : Int} (a : Int) (h0 : 1 ≤ x) (h1 : x ≤ 9223372036854775807) : J x (up N b x) a ∧ (f = f) := by
 refine ⟨.inr ⟨h0, h1, ?_, ?_⟩, rfl⟩
 ·unfold up; split
  ·decide
  ·exact Nat.or_lt_two_pow (Nat.mod_lt _ (by decide)) (by decide)
 ·unfold up; split
  ·rfl
  ·rw [Nat.testBit_or]; simp
end Go.Proofs.YteadamkkbgnpeaaGreat.PeerFacts
end OfK0
section OfK1
set_option linter.unusedVariables false
set_option linter.unusedSimpArgs false
namespace Go.Proofs.YteadamkkbgnpeaaGreat.K
open Go.RowKit Go.ChangeMaps YteadamkkbgnpeaaGreatW.PrintLast PeerFacts J F L M A B S QTC YteadamkkbgnpeaaGreatW.PrintWords YteadamkkbgnpeaaGreatW.PrintMore
/-- A peer in memory: its greatest nonce, its address. -/
def PeerAt (w : World) (gp : Nat) (N f : Int) : Prop := ∃ (b : Nat) (mv : Int), w.heap[gp]? = some (.cells #[.bool true, .int .u64 N, .int .u64 (b : Int), .int .u32 f, .int .i64 mv] 88 (0, 0)) ∧ PeerFacts.J N b f
theorem PeerAt.fr {w w1 : World} {gp : Nat} {N f : Int} {S : Nat → Prop} (h : PeerAt w gp N f) (k : Fr w w1 S) (hn : ¬ S gp) : PeerAt w1 gp N f := let ⟨b, mv, h1, h2⟩ := h; ⟨b, mv, k.blk h1 hn, h2⟩
theorem PeerAt.below {w w1 : World} {gp : Nat} {N f : Int} (h : PeerAt w gp N f) (k : Below w.heap.size w w1) : PeerAt w1 gp N f := h.fr (Fr.of_below k (fun _ => False)) (fun e => e)
/-- No heap at all: what is asked of an elder world. -/
def bare (w : World) : World := { w with heap := #[] }
theorem bare_below (w : World) : Below (bare w).heap.size (bare w) w := ⟨rfl, rfl, rfl, Nat.zero_le _, fun k hk => absurd hk (Nat.not_lt_zero _)⟩
theorem fr_keep {w w1 : World} {g : Nat} (h : Below (bare w).heap.size (bare w) w1) (k : KeepBut w w1 g none) : Fr w w1 (fun k => k = g) := ⟨h.os, h.tape, h.output, k.1, fun i hi hn => k.2 i hi hn (by simp)⟩
theorem peerNew_calls (w : World) : Calls Tryz.prog 10 #[] w fun e w' => ∃ gp, e = .returned (.pointer (some ⟨gp, 0, none⟩)) ∧ PeerAt w' gp 0 0 ∧ w.heap.size ≤ gp ∧ Below w.heap.size w w' := by
 refine (peer_New.calls true 0 0 0 0 w w (Below.refl _ _) rfl).mono ?_
 rintro e w' ⟨gp, rfl, h1, _, h2, h3⟩
 exact ⟨gp, rfl, ⟨0, 0, h1.1, .inl ⟨rfl, rfl, rfl⟩⟩, h3, h2⟩
theorem rttNew_calls (w : World) : Calls Tryz.prog 12 #[] w fun e w' => ∃ gr, e = .returned (.pointer (some ⟨gr, 0, none⟩)) ∧ w.heap.size ≤ gr ∧ Below w.heap.size w w' := by
 refine (rtt_New.calls true false 0 0 0 w w (Below.refl _ _) rfl).mono ?_
 rintro e w' ⟨gp, rfl, _, _, h2, h3⟩
 exact ⟨gp, rfl, h3, h2⟩
theorem from_calls (gp : Nat) (N f : Int) (h1 : 1 ≤ N) (w : World) (h : PeerAt w gp N f) : Calls Tryz.prog 23 #[.pointer (some ⟨gp, 0, none⟩)] w fun e w' => e = .returned (.tuple #[.int .u32 f, .bool true]) ∧ Fr w w' (fun k => k = gp) := by
 obtain ⟨b, mv, hb, hJ⟩ := h
 refine (peer_Peer_From.calls gp true N b f mv f true true N b f mv (bare w) w ⟨hb, Nat.zero_le _⟩ (bare_below w) (by rw [from_eq mv hJ, decide_eq_true h1])).mono ?_
 rintro e w' ⟨rfl, _, h2, h3⟩
 exact ⟨rfl, fr_keep h2 h3⟩
/-- What hearing a nonce leaves. -/
structure HearP (w w' : World) (gp : Nat) (N f x a er N' f' : Int) : Prop where
 peer : PeerAt w' gp N' f'
 fr : Fr w w' (fun k => k = gp)
 same : (N' = N ∧ f' = f) ∨ (N' = x ∧ f' = a)
 new : N < x → er = 0 ∧ N' = x ∧ f' = a
theorem hear_calls (gp : Nat) (N f x a : Int) (h0 : 1 ≤ x) (h1 : x ≤ 1000000) (w : World) (h : PeerAt w gp N f) :
  Calls Tryz.prog 20 #[.pointer (some ⟨gp, 0, none⟩), .int .u64 x, .int .u32 a] w fun e w' => ∃ r er N' f', e = .returned (.tuple #[.bool r, .int .i64 er]) ∧ HearP w w' gp N f x a er N' f' := by
 obtain ⟨b, mv, hb, hJ⟩ := h
 by_cases c : N < x
 ·refine (peer_Peer_Hear.calls 2 gp true N b f mv x a _ _ _ _ _ _ _ (bare w) w ⟨hb, Nat.zero_le _⟩ (bare_below w) (hear_new mv x a 2 hJ h0 (by omega) c (by omega))).mono ?_
  rintro e w' ⟨rfl, h2, h3, h4⟩
  exact ⟨_, _, x, a, rfl, ⟨_, _, h2.1, (J_up (f := f) a h0 (by omega)).1⟩, fr_keep h3 h4, .inr ⟨rfl, rfl⟩, fun _ => ⟨rfl, rfl, rfl⟩⟩
 ·cases ho : hd N b x with
  | true =>
   refine (peer_Peer_Hear.calls 2 gp true N b f mv x a _ _ _ _ _ _ _ (bare w) w ⟨hb, Nat.zero_le _⟩ (bare_below w) (hear_old mv x a 2 hJ h0 (by omega) ho (by omega))).mono ?_
   rintro e w' ⟨rfl, h2, h3, h4⟩
   exact ⟨_, _, N, f, rfl, ⟨_, _, h2.1, hJ⟩, fr_keep h3 h4, .inl ⟨rfl, rfl⟩, fun e => absurd e c⟩
  | false =>
   refine (peer_Peer_Hear.calls 2 gp true N b f mv x a _ _ _ _ _ _ _ (bare w) w ⟨hb, Nat.zero_le _⟩ (bare_below w) (hear_low mv x a 2 hJ h0 (by omega) ho (by omega))).mono ?_
   rintro e w' ⟨rfl, h2, h3, h4⟩
   exact ⟨_, _, N, f, rfl, ⟨_, _, h2.1, J_low hJ h0 (by omega) ho⟩, fr_keep h3 h4, .inl ⟨rfl, rfl⟩, fun e => absurd e c⟩
/-- A link in memory: its peer, its sealer, its table, its meter; when it sent last. -/
def LinkAt (w : World) (g gp gs gt gr : Nat) (last : Int) : Prop := w.heap[g]? = some (.cells #[.pointer (some ⟨gp, 0, none⟩), .pointer (some ⟨gs, 0, none⟩), .pointer (some ⟨gt, 0, none⟩), .pointer (some ⟨gr, 0, none⟩), .int .i64 last] 53 (0, 0))
section
variable {w w1 : World} {g gp gs gt gr : Nat} {last : Int} {S : Nat → Prop}
theorem LinkAt.fr (h : LinkAt w g gp gs gt gr last) (k : Fr w w1 S) (hn : ¬ S g) : LinkAt w1 g gp gs gt gr last := k.blk h hn
theorem LinkAt.below (h : LinkAt w g gp gs gt gr last) (k : Below w.heap.size w w1) : LinkAt w1 g gp gs gt gr last := (k.block g (blk_lt h)).trans h
theorem LinkAt.c0 (h : LinkAt w g gp gs gt gr last) : w.cell? ⟨g, 0, none⟩ = some (.pointer (some ⟨gp, 0, none⟩)) := (blk_cell h 0).trans rfl
theorem LinkAt.c1 (h : LinkAt w g gp gs gt gr last) : w.cell? ⟨g, 1, none⟩ = some (.pointer (some ⟨gs, 0, none⟩)) := (blk_cell h 1).trans rfl
theorem LinkAt.c2 (h : LinkAt w g gp gs gt gr last) : w.cell? ⟨g, 2, none⟩ = some (.pointer (some ⟨gt, 0, none⟩)) := (blk_cell h 2).trans rfl
theorem LinkAt.c4 (h : LinkAt w g gp gs gt gr last) : w.cell? ⟨g, 4, none⟩ = some (.int .i64 last) := (blk_cell h 4).trans rfl
end
set_option maxHeartbeats 4000000 in
set_option maxRecDepth 100000 in
theorem linkMade_calls (g gp gs gt gr : Nat) (last : Int) (w : World) (h : LinkAt w g gp gs gt gr last) : Calls Tryz.prog 13 #[.pointer (some ⟨g, 0, none⟩)] w fun e w' => e = .returned (.bool true) ∧ w' = w := by
 have h1 := h.c1
 go_enter Tryz.func13, Tryz.ntmps13
 go_wp2
 go_ret
 exact ⟨rfl, rfl⟩
/-- What New of a link makes. -/
structure NewL (w w' : World) (secret : List Int) (side : Int) (g gp gs gst gc gt gm gr : Nat) : Prop where
 link : LinkAt w' g gp gs gt gr 0
 slr : Slr w' gs gst gc side (keyH secret) (keyM secret) 1
 peer : PeerAt w' gp 0 0
 tab : TabAt w' gt gm 1 [] 0
 lo : w.heap.size ≤ g ∧ w.heap.size ≤ gp ∧ w.heap.size ≤ gs ∧ w.heap.size ≤ gst ∧ w.heap.size ≤ gc ∧ w.heap.size ≤ gt ∧ w.heap.size ≤ gm
 bel : Below w.heap.size w w'
set_option maxHeartbeats 4000000 in
set_option maxRecDepth 100000 in
theorem linkNew_calls (secret : List Int) (A : Option Addr) (c : Nat) (side : Int) (hside : side = 0 ∨ side = 1) (w : World) (hr : (Kd.int .u8).C w A secret.length secret) (hc : secret.length ≤ c) (hl : 0 < secret.length ∧ secret.length ≤ 64) :
  Calls Tryz.prog 5 #[.slice A secret.length c, .int .i64 side] w fun e w' => ∃ g gp gs gst gc gt gm gr, e = .returned (.tuple #[.pointer (some ⟨g, 0, none⟩), .int .i64 0]) ∧ NewL w w' secret side g gp gs gst gc gt gm gr := by
 have HC := Aside0.mk (And.intro hr (And.intro hc hl))
 clear hr hc hl
 go_enter Tryz.func5, Tryz.ntmps5
 go_wp2_with (first
  | (go_at_call 9; refine (new_calls secret A c side hside _ HC.out.1 HC.out.2.1 HC.out.2.2).mono ?_; rintro e w1 ⟨gs, gst, gc, rfl, h1, h2, h3, h4, h5⟩; have HX1 : Aside0 (Slr w1 gs gst gc side (keyH secret) (keyM secret) 1 ∧ (w.heap.size ≤ gs ∧ w.heap.size ≤ gst ∧ w.heap.size ≤ gc) ∧ Below w.heap.size w w1) := ⟨h4, ⟨h1, h2, h3⟩, h5⟩; clear h1 h2 h3 h4 h5)
  | (go_at_call 10; refine (peerNew_calls _).mono ?_; rintro e w2 ⟨gp, rfl, h1, h2, h3⟩; have HX2 : Aside0 (PeerAt w2 gp 0 0 ∧ w.heap.size ≤ gp ∧ Below w.heap.size w w2 ∧ Slr w2 gs gst gc side (keyH secret) (keyM secret) 1) := ⟨h1, by have := HX1.out.2.2.size; omega, below_step HX1.out.2.2 h3, HX1.out.1.below h3⟩; clear h1 h2 h3)
  | (go_at_call 11; refine (Go.Proofs.YteadamkkbgnpeaaGreat.J.new_calls _).mono ?_; rintro e w3 ⟨gt, gm, rfl, h1, h2, h3, h4⟩; have HX3 : Aside0 (TabAt w3 gt gm 1 [] 0 ∧ (w.heap.size ≤ gt ∧ w.heap.size ≤ gm) ∧ Below w.heap.size w w3 ∧ PeerAt w3 gp 0 0 ∧ Slr w3 gs gst gc side (keyH secret) (keyM secret) 1) := ⟨h1, ⟨by have := HX2.out.2.2.1.size; omega, by have := HX2.out.2.2.1.size; omega⟩, below_step HX2.out.2.2.1 h4, HX2.out.1.below h4, HX2.out.2.2.2.below h4⟩; clear h1 h2 h3 h4)
  | (go_at_call 12; refine (rttNew_calls _).mono ?_; rintro e w4 ⟨gr, rfl, h1, h2⟩; have HX4 : Aside0 (TabAt w4 gt gm 1 [] 0 ∧ Below w.heap.size w w4 ∧ PeerAt w4 gp 0 0 ∧ Slr w4 gs gst gc side (keyH secret) (keyM secret) 1) := ⟨HX3.out.1.below h2, below_step HX3.out.2.2.1 h2, HX3.out.2.2.2.1.below h2, HX3.out.2.2.2.2.below h2⟩; clear h1 h2)
  | ((with_reducible refine gate_dst (N := 18) rfl ?_); refine Kd.event_run rfl (v := .agg #[.pointer (some ⟨gp, 0, none⟩)]) (w1 := w2) ?hr ?_; (case hr => kernel_rfl))
  | ((with_reducible refine gate_dst (N := 22) rfl ?_); refine Kd.event_run rfl (v := .agg #[.pointer (some ⟨gp, 0, none⟩), .pointer (some ⟨gs, 0, none⟩), .pointer (some ⟨gt, 0, none⟩), .pointer (some ⟨gr, 0, none⟩), .int .i64 0]) (w1 := w4) ?hr ?_; (case hr => kernel_rfl))
  | ((with_reducible refine gate_dst (N := 23) rfl ?_); refine box_v rfl rfl rfl ?_; intro g hg w5 hb hw; have HX5 : Aside0 (NewL w w5 secret side g gp gs gst gc gt gm gr) := ⟨⟨hb, HX4.out.2.2.2.below hw, HX4.out.2.2.1.below hw, HX4.out.1.below hw, ⟨by have := HX4.out.2.1.size; omega, HX2.out.2.1, HX1.out.2.1.1, HX1.out.2.1.2.1, HX1.out.2.1.2.2, HX3.out.2.1.1, HX3.out.2.1.2⟩, below_step HX4.out.2.1 hw⟩⟩; clear hb hw hg))
 go_ret2
 exact ⟨_, _, _, _, _, _, _, _, rfl, HX5.out⟩
end Go.Proofs.YteadamkkbgnpeaaGreat.K
end OfK1
section OfK2
set_option linter.unusedVariables false
set_option linter.unusedSimpArgs false
namespace Go.Proofs.YteadamkkbgnpeaaGreat.K
open Go.RowKit Go.ChangeMaps YteadamkkbgnpeaaGreatW.PrintLast PeerFacts J F L M A B S QTC YteadamkkbgnpeaaGreatW.PrintWords YteadamkkbgnpeaaGreatW.PrintMore
set_option maxHeartbeats 4000000 in
set_option maxRecDepth 100000 in
theorem linkTo_calls (g gp gs gt gr : Nat) (last N f : Int) (h1 : 1 ≤ N) (w : World) (h : LinkAt w g gp gs gt gr last) (hp : PeerAt w gp N f) :
  Calls Tryz.prog 8 #[.pointer (some ⟨g, 0, none⟩)] w fun e w' => e = .returned (.tuple #[.int .u32 f, .bool true]) ∧ Fr w w' (fun k => k = gp) := by
 have hc := h.c0
 have HL := Aside0.mk h
 go_enter Tryz.func8, Tryz.ntmps8
 go_wp2_with (first
  | (go_at_call 13; refine (linkMade_calls g gp gs gt gr last _ HL.out).mono ?_; rintro e w2 ⟨rfl, hw2⟩; have hw2 := hw2.symm; subst hw2)
  | (go_at_call 23; refine (from_calls gp N f h1 _ hp).mono ?_; rintro e w2 ⟨rfl, hf⟩; have HF := Aside0.mk hf; clear hf))
 go_ret2
 exact ⟨rfl, HF.out⟩
set_option maxHeartbeats 4000000 in
set_option maxRecDepth 100000 in
theorem linkClosed_calls (g gp gs gt gr : Nat) (last : Int) (gst gc : Nat) (KY M : List Int) (hM : M.length = 16) (nx : Int) (hn : 1 ≤ nx ∧ nx ≤ 1000000) (w : World) (h : LinkAt w g gp gs gt gr last) (hs : Slr w gs gst gc 0 KY M nx) :
  Calls Tryz.prog 14 #[.pointer (some ⟨g, 0, none⟩)] w fun e w' => e = .returned (.bool false) ∧ w' = w := by
 have hc := h.c1
 have HL := Aside0.mk h
 have HS := Aside0.mk hs
 have c0 : (nx == 0) = false := beq_eq_false_iff_ne.mpr (by omega)
 have c1 : decide (nx > 4611686018427387840) = false := decide_eq_false (by omega)
 have c2 : decide (4611686018427387840 < nx) = false := decide_eq_false (by omega)
 have c3 : (4611686018427387840 < nx) = False := eq_false (by omega)
 clear hs
 go_enter Tryz.func14, Tryz.ntmps14
 go_wp2_with (first
  | (go_at_call 13; refine (linkMade_calls g gp gs gt gr last _ HL.out).mono ?_; rintro e w2 ⟨rfl, hw2⟩; have hw2 := hw2.symm; subst hw2)
  | (go_at_call 16; refine (next_calls gs gst 0 nx M hM hn _ HS.out.b).mono ?_; rintro e w2 ⟨rfl, hw2⟩; have hw2 := hw2.symm; subst hw2))
 go_ret
 exact ⟨rfl, rfl⟩
end Go.Proofs.YteadamkkbgnpeaaGreat.K
end OfK2
section OfK3
set_option linter.unusedVariables false
set_option linter.unusedSimpArgs false
namespace Go.Proofs.YteadamkkbgnpeaaGreat.K
open Go.RowKit Go.ChangeMaps YteadamkkbgnpeaaGreatW.PrintLast PeerFacts J F L M A B S QTC YteadamkkbgnpeaaGreatW.PrintWords YteadamkkbgnpeaaGreatW.PrintMore
/-- How many parts a frame has, and each. -/
def cnt (l : List Int) : Nat := max 1 ((l.length + 479) / 480)
def chunk (l : List Int) (i : Nat) : List Int := (l.take (min ((i + 1) * 480) l.length)).drop (i * 480)
def chunks (l : List Int) : List (List Int) := (List.range (cnt l)).map (chunk l)
theorem cnt_le {l : List Int} (h : l.length ≤ 1500) : 1 ≤ cnt l ∧ cnt l ≤ 4 := by unfold cnt; omega
theorem chunk_len (l : List Int) (i : Nat) : (chunk l i).length = min ((i + 1) * 480) l.length - i * 480 := by
 unfold chunk
 rw [List.length_drop, List.length_take]
 omega
theorem chunks_len (l : List Int) : (chunks l).length = cnt l := by unfold chunks; simp
theorem chunks_get (l : List Int) (i : Nat) (h : i < cnt l) : (chunks l).getD i [] = chunk l i := by
 unfold chunks
 simp [List.getD_eq_getElem?_getD, h]
theorem chunk_ok {l : List Int} (h : l.length ≤ 1500) {id : Int} (hid : 1 ≤ id ∧ id < 64) (i : Nat) (hi : i < cnt l) : pOk id (i : Int) (cnt l : Int) (chunk l i) := by
 have h4 := cnt_le h
 have hl := chunk_len l i
 have hc : cnt l = max 1 ((l.length + 479) / 480) := rfl
 refine ⟨hid, ⟨by omega, by omega, by omega⟩, by omega, fun h0 => by omega, ?_⟩
 omega
theorem chunks_whole {l : List Int} (h : l.length ≤ 1500) {id : Int} (hid : 1 ≤ id ∧ id < 64) : Whole id (cnt l) (chunks l) :=
 ⟨chunks_len l, cnt_le h, fun j hj => by rw [chunks_get l j hj]; exact chunk_ok h hid j hj⟩
theorem chunks_part (l : List Int) : ∀ m, ((List.range m).map (chunk l)).flatten = l.take (m * 480)
 | 0 => by simp
 | m + 1 => by
  rw [List.range_succ, List.map_append, List.flatten_append, chunks_part l m]
  simp only [List.map_cons, List.map_nil, List.flatten_cons, List.flatten_nil, List.append_nil]
  unfold chunk
  rcases Nat.lt_or_ge l.length (m * 480) with h | h
  ·rw [List.take_of_length_le (by omega : l.length ≤ m * 480), List.drop_eq_nil_of_le (by rw [List.length_take]; omega), List.append_nil, List.take_of_length_le (by omega)]
  ·have e : l.take (m * 480) = (l.take (min ((m + 1) * 480) l.length)).take (m * 480) := by rw [List.take_take, Nat.min_eq_left (by omega)]
   rw [e, List.take_append_drop]
   rcases Nat.lt_or_ge l.length ((m + 1) * 480) with h2 | h2
   ·rw [Nat.min_eq_right (by omega), List.take_length, List.take_of_length_le (by omega)]
   ·rw [Nat.min_eq_left h2]
theorem chunks_flat (l : List Int) : (chunks l).flatten = l := by
 unfold chunks
 rw [chunks_part, List.take_of_length_le]
 have hc : cnt l = max 1 ((l.length + 479) / 480) := rfl
 omega
theorem chunk_b {l : List Int} (h : AllB l) (i : Nat) : AllB (chunk l i) := fun x hx => h x (List.mem_of_mem_take (List.mem_of_mem_drop hx))
/-- A frame's parts, as Split tells them. -/
def partsV (id : Int) (l : List Int) : List S60 := (List.range (cnt l)).map (fun i : Nat => (⟨id, (i : Int), (cnt l : Int), chunk l i⟩ : S60))
theorem count_f {l : List Int} (h : l.length ≤ 1500) : frag_Count.f (l.length : Int) = some (cnt l : Int) := by
 unfold frag_Count.f
 rw [if_neg (by omega), if_neg (by omega)]
 congr 1
 have e1 : wrap64 (wrap64 ((l.length : Int) + 480) - 1) = ((l.length + 479 : Nat) : Int) := by rw [wrap64_id (n := (l.length : Int) + 480) (by omega), wrap64_id (by omega)]; omega
 have e2 : (((l.length + 479 : Nat) : Int)).tdiv 480 = (((l.length + 479) / 480 : Nat) : Int) := by
  rw [Int.tdiv_eq_ediv_of_nonneg (by omega)]
  omega
 rw [e1, e2, wrap64_id (by omega)]
 unfold mx cnt
 split <;> omega
theorem isID_f {id : Int} (hid : 1 ≤ id ∧ id < 64) : frag_isID.f id = some true := by
 unfold frag_isID.f
 rw [if_pos (show id ≥ 1 from hid.1), decide_eq_true (by omega)]
theorem mn_nat (a b : Nat) : mn (a : Int) (b : Int) = ((min a b : Nat) : Int) := by unfold mn; split <;> omega
theorem split_l {l : List Int} (h : l.length ≤ 1500) (id : Int) : ∀ r i, i + r = cnt l → frag_Split.l0 (r + 1) id l (cnt l : Int) ((partsV id l).take i) (cnt l : Int) (i : Int) = some (partsV id l, 0)
 | 0, i, hi => by
  rw [frag_Split.l0, if_neg (by omega)]
  have : (partsV id l).take i = partsV id l := List.take_of_length_le (by unfold partsV; simp; omega)
  rw [this]
 | r + 1, i, hi => by
  have h4 := cnt_le h
  have hc : cnt l = max 1 ((l.length + 479) / 480) := rfl
  have e1 : wrap64 ((i : Int) * 480) = ((i * 480 : Nat) : Int) := by rw [wrap64_id (by omega)]; omega
  have e2 : wrap64 ((i : Int) + 1) = ((i + 1 : Nat) : Int) := by rw [wrap64_id (by omega)]; omega
  have e3 : wrap64 (((i + 1 : Nat) : Int) * 480) = (((i + 1) * 480 : Nat) : Int) := by rw [wrap64_id (by omega)]; omega
  have e4 : ((l.take (((min ((i + 1) * 480) l.length : Nat) : Int)).toNat).drop ((i * 480 : Nat) : Int).toNat) = chunk l i := by unfold chunk; rw [Int.toNat_natCast, Int.toNat_natCast]
  have hlen : ((partsV id l).take i).length < 2932031007402 := by rw [List.length_take]; omega
  rw [frag_Split.l0, if_pos (by omega), e1, e2, e3, mn_nat, if_pos (by omega), if_pos (by omega), if_pos (by omega), e4]
  have hcl : slices_Clone_byte_byte.f (chunk l i) = some (chunk l i) := by
   unfold slices_Clone_byte_byte.f
   rw [if_pos (by have := chunk_len l i; omega)]
  rw [hcl, Option.bind_some, if_pos hlen]
  have ht : (partsV id l).take i ++ [(⟨id, (i : Int), (cnt l : Int), chunk l i⟩ : S60)] = (partsV id l).take (i + 1) := by
   rw [List.take_succ_eq_append_getElem (by unfold partsV; simp; omega)]
   congr 2
   unfold partsV
   simp
  rw [ht]
  exact split_l h id r (i + 1) (by omega)
theorem split_f {l : List Int} (h : l.length ≤ 1500) {id : Int} (hid : 1 ≤ id ∧ id < 64) : frag_Split.f (cnt l + 1) id l = some (partsV id l, 0) := by
 unfold frag_Split.f
 rw [count_f h, Option.bind_some, if_neg (by have := cnt_le h; omega), isID_f hid, Option.bind_some, if_pos rfl]
 exact split_l h id (cnt l) 0 (by omega)
/-- A part's bytes. -/
def wrV (id : Int) (i n : Nat) (d : List Int) : List Int := id :: (i : Int) :: (n : Int) :: d
theorem write_f {id : Int} {i n : Nat} {d : List Int} (h : pOk id (i : Int) (n : Int) d) : frag_Write.f 1 id (i : Int) (n : Int) d = some (wrV id i n d, 0) := by
 have h1 := h.1
 have h2 := h.2.1
 have h3 := h.2.2.1
 unfold frag_Write.f
 rw [right_t h, Option.bind_some, if_pos rfl]
 unfold vint_Put.f
 rw [if_pos (by omega), Option.bind_some]
 simp only [if_true, Option.bind_some, List.length_cons, List.length_nil, List.cons_append, List.nil_append]
 rw [if_pos (by omega), if_pos (by omega), show (i : Int) % 256 = i by omega, show (n : Int) % 256 = n by omega]
 rfl
theorem read_f {id : Int} {i n : Nat} {d : List Int} (h : pOk id (i : Int) (n : Int) d) : frag_Read.f 1 (wrV id i n d) = some (id, (i : Int), (n : Int), d, 0) := by
 have h1 := h.1
 have h2 := h.2.1
 have h3 := h.2.2.1
 have hl : (wrV id i n d).length = d.length + 3 := by unfold wrV; simp
 have hg : vint_Get.f (wrV id i n d) 0 = some (id, 1, 0) := by
  unfold vint_Get.f wrV
  simp only
  rw [if_pos ⟨by omega, trivial, by simp; omega⟩]
 have e1 : wrap64 ((1 : Int) + 1) = 2 := by unfold wrap64; omega
 have e2 : wrap64 ((1 : Int) + 2) = 3 := by unfold wrap64; omega
 have hcl : slices_Clone_byte_byte.f ((wrV id i n d).drop (3 : Int).toNat) = some d := by
  unfold slices_Clone_byte_byte.f
  rw [show (wrV id i n d).drop (3 : Int).toNat = d from rfl, if_pos (by omega)]
 have hr1 : rd (wrV id i n d) 1 = (i : Int) := rfl
 have hr2 : rd (wrV id i n d) 2 = (n : Int) := rfl
 unfold frag_Read.f
 rw [hg, Option.bind_some, if_pos rfl]
 simp only [e1, e2]
 rw [if_neg (by rw [hl, wrap64_id (by omega)]; omega), if_pos (by omega), if_pos (by rw [hl]; omega), if_pos (by omega), if_pos (by rw [hl]; omega), if_pos (by omega), if_pos (by rw [hl]; omega), hcl, Option.bind_some, hr1, hr2, wrap64_id (n := (i : Int)) (by omega), wrap64_id (n := (n : Int)) (by omega), right_t h, Option.bind_some, if_pos rfl]
theorem wrV_len (id : Int) (i n : Nat) (d : List Int) : (wrV id i n d).length = d.length + 3 := by unfold wrV; simp
theorem wrV_b {id : Int} {i n : Nat} {d : List Int} (h : pOk id (i : Int) (n : Int) d) (hb : AllB d) : AllB (wrV id i n d) := by
 have h1 := h.1
 have h2 := h.2.1
 intro x hx
 unfold wrV at hx
 rcases List.mem_cons.mp hx with rfl | hx
 ·omega
 rcases List.mem_cons.mp hx with rfl | hx
 ·omega
 rcases List.mem_cons.mp hx with rfl | hx
 ·omega
 exact hb x hx
end Go.Proofs.YteadamkkbgnpeaaGreat.K
end OfK3
section OfK4
set_option linter.unusedVariables false
set_option linter.unusedSimpArgs false
namespace Go.Proofs.YteadamkkbgnpeaaGreat.K
open Go.RowKit Go.ChangeMaps YteadamkkbgnpeaaGreatW.PrintLast PeerFacts J F L M A B S QTC YteadamkkbgnpeaaGreatW.PrintWords YteadamkkbgnpeaaGreatW.PrintMore
attribute [local go_sem] max2_int min2_int max_two min_two max_three min_three max_four min_four
/-- A slice, as a value of one cell. -/
structure Sl where
 A : Option Addr
 n : Nat
 c : Nat
def slc (s : Sl) : Value := .slice s.A s.n s.c
def slK : Kd Sl := Kd.scalar slc (fun _ => rfl)
def sl0 : Sl := ⟨none, 0, 0⟩
theorem info22 : (Tryz.prog.info? 22).map (fun i => (i.zero, i.size, i.bytes)) = some (some (.slice none 0 0), 1, 24) := by kernel_rfl
/-- The slices are of these bytes. -/
structure Dgs (lo : Nat) (w : World) (ss : List Sl) (D : List (List Int)) : Prop where
 len : ss.length = D.length
 at_ : ∀ j, j < D.length → Byt lo w (slc (ss.getD j sl0)) (D.getD j [])
section
variable {lo : Nat} {w w1 : World} {ss tt : List Sl} {D E : List (List Int)} {S : Nat → Prop}
theorem Dgs.nil (lo : Nat) (w : World) : Dgs lo w [] [] := ⟨rfl, fun j h => absurd h (Nat.not_lt_zero _)⟩
theorem Dgs.fr (h : Dgs lo w ss D) (f : Fr w w1 S) (hS : ∀ k, S k → ¬ T5 w k) : Dgs lo w1 ss D := ⟨h.len, fun j hj => (h.at_ j hj).fr f hS⟩
theorem Dgs.below (h : Dgs lo w ss D) (f : Below w.heap.size w w1) : Dgs lo w1 ss D := h.fr (Fr.of_below f (fun _ => False)) (fun _ e => e.elim)
theorem Dgs.lower {lo' : Nat} (h : Dgs lo w ss D) (hl : lo' ≤ lo) : Dgs lo' w ss D := ⟨h.len, fun j hj => (h.at_ j hj).lower hl⟩
theorem Dgs.app (h : Dgs lo w ss D) (k : Dgs lo w tt E) : Dgs lo w (ss ++ tt) (D ++ E) := by
 refine ⟨by rw [List.length_append, List.length_append, h.len, k.len], fun j hj => ?_⟩
 rw [List.length_append] at hj
 rcases Nat.lt_or_ge j D.length with h1 | h1
 ·have e1 : (ss ++ tt).getD j sl0 = ss.getD j sl0 := by rw [List.getD_eq_getElem?_getD, List.getD_eq_getElem?_getD, List.getElem?_append_left (by rw [h.len]; exact h1)]
  have e2 : (D ++ E).getD j [] = D.getD j [] := by rw [List.getD_eq_getElem?_getD, List.getD_eq_getElem?_getD, List.getElem?_append_left h1]
  rw [e1, e2]
  exact h.at_ j h1
 ·have e1 : (ss ++ tt).getD j sl0 = tt.getD (j - D.length) sl0 := by rw [List.getD_eq_getElem?_getD, List.getD_eq_getElem?_getD, List.getElem?_append_right (by rw [h.len]; exact h1), h.len]
  have e2 : (D ++ E).getD j [] = E.getD (j - D.length) [] := by rw [List.getD_eq_getElem?_getD, List.getD_eq_getElem?_getD, List.getElem?_append_right h1]
  rw [e1, e2]
  exact k.at_ _ (by omega)
theorem Dgs.one {s : Sl} {d : List Int} (h : Byt lo w (slc s) d) : Dgs lo w [s] [d] := ⟨rfl, fun j hj => by
 have : j = 0 := by simp at hj; omega
 subst this
 exact h⟩
end
/-- A row of its own stays, where what was written is older. -/
theorem R_fr_old {α : Type} {d : Kd α} {e base : Nat} {ok : Nat → Prop} {w w1 : World} {v : Value} {xs : List α} {S : Nat → Prop} (h : d.R e w base ok v xs) (f : Fr w w1 S) (hS : ∀ k, S k → k < base) : d.R e w1 base ok v xs :=
 Kd.R_mono (Kd.R_move (Kd.R_bound h) (fun k hk => f.block k hk.2.2.1 (fun hs => by have := hS k hs; have := hk.2.1; omega))) (fun _ hk => hk.1)
/-- The datagrams of a frame: the first nonce is its number. -/
def dgs (KY M : List Int) (nx : Int) (l : List Int) (i : Nat) : List (List Int) := (List.range i).map (fun j : Nat => dgV KY M (nx + (j : Int)) (wrV nx j (cnt l) (chunk l j)))
theorem dgs_succ (KY M : List Int) (nx : Int) (l : List Int) (i : Nat) : dgs KY M nx l (i + 1) = dgs KY M nx l i ++ [dgV KY M (nx + (i : Int)) (wrV nx i (cnt l) (chunk l i))] := by
 unfold dgs
 rw [List.range_succ, List.map_append]
 rfl
/-- What Send leaves. -/
structure SendPost (w w' : World) (g gp gs gst gc gt gr : Nat) (KY M : List Int) (nx : Int) (l : List Int) (v : Value) (last' : Int) (ss : List Sl) : Prop where
 link : LinkAt w' g gp gs gt gr last'
 slr : Slr w' gs gst gc 0 KY M (nx + (cnt l : Int))
 fr : Fr w w' (fun k => k = g ∨ k = gs ∨ k = gc)
 row : slK.R 22 w' w.heap.size (fun _ => True) v ss
 dg : Dgs w.heap.size w' ss (dgs KY M nx l (cnt l))
/-- A part lies at its place. -/
theorem part_at {w : World} {B g8 c8 n : Nat} {nx : Int} {l : List Int} (h : k60.R 60 w B (fun _ => True) (.slice (some ⟨g8, 0, none⟩) n c8) (partsV nx l)) (i : Nat) (hi : i < cnt l) :
  ∃ A3 c3, w.rangeAt g8 (i * 4) [.int .u64 nx, .int .i64 (i : Int), .int .i64 (cnt l : Int), .slice A3 (chunk l i).length c3] ∧ (chunk l i).length ≤ c3 ∧ (Kd.int .u8).C w A3 (chunk l i).length (chunk l i) := by
 obtain ⟨A, c, e, _, hC⟩ := Kd.R_reads h
 have hpl : (partsV nx l).length = cnt l := by unfold partsV; simp
 obtain ⟨ad, cs, e1, _, hK, hcell⟩ := Kd.C_get hC z60 (i : Int) (by omega) (by omega)
 have hg : (partsV nx l).getD ((i : Int)).toNat z60 = ⟨nx, (i : Int), (cnt l : Int), chunk l i⟩ := by
  unfold partsV
  simp [List.getD_eq_getElem?_getD, hi]
 rw [hg] at hK
 obtain ⟨A3, c3, rfl, h3, h4⟩ := k60_open hK
 injection e with e2 e3 e4
 rw [e1] at e2
 injection e2 with e2
 refine ⟨A3, c3, fun j u hu => ?_, h3, h4⟩
 have := hcell j u hu
 rw [← e2, Int.toNat_natCast, add_plain] at this
 exact this
theorem write_n {nx : Int} {i n : Nat} {d : List Int} {L : Nat} {A : Option Addr} {c : Nat} (hW : frag_Write.f 1 nx (i : Int) (n : Int) d = some (wrV nx i n d, 0)) (hL : d.length = L) (hc : L ≤ c) (w : World) (hC : (Kd.int .u8).C w A d.length d) :
  Calls Tryz.prog 17 #[.agg #[.int .u64 nx, .int .i64 (i : Int), .int .i64 (n : Int), .slice A L c]] w fun e w' => ∃ A' L' c', L' = (wrV nx i n d).length ∧ L' ≤ c' ∧ e = .returned (.tuple #[.slice A' L' c', .int .i64 0]) ∧ Byt w.heap.size w' (.slice A' L' c') (wrV nx i n d) ∧ Below w.heap.size w w' := by
 have h := frag_Write.calls 1 nx (i : Int) (n : Int) A c d (wrV nx i n d) 0 w hC (by omega) hW
 rw [hL] at h
 refine h.mono ?_
 rintro e w' ⟨v, rfl, hr, hw⟩
 have hy := Byt.of_R hr
 obtain ⟨A', c', rfl, hc', _⟩ := Kd.R_reads hr
 exact ⟨A', _, c', rfl, hc', rfl, hy, hw⟩
theorem seal_n {gs gst gc : Nat} {KY M : List Int} {nx : Int} {p : List Int} {A : Option Addr} {L c B : Nat} {w : World} (hK : KY.length = 16 ∧ AllB KY) (hM : M.length = 16) (hnx : 1 ≤ nx ∧ nx ≤ 1000000) (hs : Slr w gs gst gc 0 KY M nx) (hy : Byt B w (.slice A L c) p) (hB : gs < B ∧ gc < B) (hL : L = p.length) (hc : L ≤ c) (hl : L ≤ 512) :
  Calls Tryz.prog 18 #[.pointer (some ⟨gs, 0, none⟩), .slice A L c] w fun e w' => ∃ A' n' c', e = .returned (.tuple #[.slice A' n' c', .int .i64 0]) ∧ Byt w.heap.size w' (.slice A' n' c') (dgV KY M nx p) ∧ Slr w' gs gst gc 0 KY M (nx + 1) ∧ Fr w w' (fun k => k = gs ∨ k = gc) := by
 obtain ⟨A0, c0, e0, h1, h2, h3⟩ := hy.out
 injection e0 with e1 e2 e3
 subst e1 e3
 subst hL
 refine (seal_calls gs gst gc KY M hK hM nx hnx p A c w hs h2 hc hl (fun ad e _ => by have := (h3 ad e).1; omega)).mono ?_
 rintro e w' ⟨v, rfl, hy', hs', hf⟩
 obtain ⟨A', c', rfl, _, _, _⟩ := hy'.out
 exact ⟨A', _, c', rfl, hy', hs', hf⟩
theorem fr_of_grown {w w1 : World} {row : Option Nat} (h : w.grownBy w1 row) : Fr w w1 (fun k => some k = row) := ⟨h.os, h.tape, h.output, h.size, fun k hk hn => h.block k hk hn⟩
/-- The walk's state in Send. -/
structure SL (w wr : World) (g gp gs gst gc gt gr : Nat) (last : Int) (KY M : List Int) (nx : Int) (l : List Int) (g8 c8 i : Nat) (v : Value) : Prop where
 link : LinkAt wr g gp gs gt gr last
 slr : Slr wr gs gst gc 0 KY M (nx + (i : Int))
 parts : k60.R 60 wr w.heap.size (fun _ => True) (.slice (some ⟨g8, 0, none⟩) (cnt l) c8) (partsV nx l)
 fr : Fr w wr (fun k => k = gs ∨ k = gc)
 out : ∃ ss, slK.R 22 wr w.heap.size (fun _ => True) v ss ∧ Dgs w.heap.size wr ss (dgs KY M nx l i)
section
variable {w wr w1 : World} {g gp gs gst gc gt gr : Nat} {last : Int} {KY M : List Int} {nx : Int} {l : List Int} {g8 c8 i : Nat} {v : Value}
theorem SL.below (h : SL w wr g gp gs gst gc gt gr last KY M nx l g8 c8 i v) (k : Below wr.heap.size wr w1) : SL w w1 g gp gs gst gc gt gr last KY M nx l g8 c8 i v :=
 ⟨h.link.below k, h.slr.below k, Kd.R_below h.parts k, h.fr.then_below k, let ⟨ss, h1, h2⟩ := h.out; ⟨ss, Kd.R_below h1 k, h2.below k⟩⟩
/-- A datagram was sealed. -/
structure SLx (w wr : World) (g gp gs gst gc gt gr : Nat) (last : Int) (KY M : List Int) (nx : Int) (l : List Int) (g8 c8 i : Nat) (v : Value) (A : Option Addr) (m c : Nat) : Prop where
 link : LinkAt wr g gp gs gt gr last
 slr : Slr wr gs gst gc 0 KY M (nx + (i : Int) + 1)
 parts : k60.R 60 wr w.heap.size (fun _ => True) (.slice (some ⟨g8, 0, none⟩) (cnt l) c8) (partsV nx l)
 fr : Fr w wr (fun k => k = gs ∨ k = gc)
 out : ∃ ss, ss.length = i ∧ slK.R 22 wr w.heap.size (fun _ => True) v ss ∧ Dgs w.heap.size wr ss (dgs KY M nx l i)
 new : Byt w.heap.size wr (.slice A m c) (dgV KY M (nx + (i : Int)) (wrV nx i (cnt l) (chunk l i)))
theorem SL.sealed (h : SL w wr g gp gs gst gc gt gr last KY M nx l g8 c8 i v) (hs0 : Slr w gs gst gc 0 KY M nx) (hne : g ≠ gs ∧ g ≠ gst ∧ g ≠ gc) {A : Option Addr} {m c : Nat} (f : Fr wr w1 (fun k => k = gs ∨ k = gc)) (hs : Slr w1 gs gst gc 0 KY M (nx + (i : Int) + 1)) (hy : Byt wr.heap.size w1 (.slice A m c) (dgV KY M (nx + (i : Int)) (wrV nx i (cnt l) (chunk l i)))) :
  SLx w w1 g gp gs gst gc gt gr last KY M nx l g8 c8 i v A m c := by
 have hlt := hs0.lt
 have hold : ∀ k, (k = gs ∨ k = gc) → k < w.heap.size := fun k e => e.elim (fun e => by omega) (fun e => by omega)
 have h5 : ∀ k, (k = gs ∨ k = gc) → ¬ T5 wr k := fun k e => e.elim (fun e => e ▸ h.slr.not5.1) (fun e => e ▸ h.slr.not5.2.2)
 obtain ⟨ss, h1, h2⟩ := h.out
 exact ⟨h.link.fr f (fun e => e.elim hne.1 hne.2.2), hs, R_fr_old h.parts f hold, h.fr.trans f (fun k e => .inl e), ⟨ss, by rw [h2.len]; unfold dgs; simp, R_fr_old h1 f hold, h2.fr f h5⟩, hy.lower h.fr.size⟩
theorem SL.done (h : SL w wr g gp gs gst gc gt gr last KY M nx l g8 c8 i v) (hi : i = cnt l) (hne : g ≠ gs ∧ g ≠ gst ∧ g ≠ gc) (z : Int) : ∃ ss, SendPost w (wr.setCell ⟨g, 4, none⟩ (.int .i64 z)) g gp gs gst gc gt gr KY M nx l v z ss := by
 subst hi
 have f := (Fr.refl wr (fun k => k = g)).setCell (p := ⟨g, 4, none⟩) (.inl rfl) (.int .i64 z)
 have h5 : ¬ T5 wr g := T5.not h.link (by decide)
 obtain ⟨ss, h1, h2⟩ := h.out
 refine ⟨ss, ?_, h.slr.fr f (Ne.symm hne.1) (Ne.symm hne.2.1) (Ne.symm hne.2.2), (h.fr.mono (fun k e => .inr e)).trans f (fun k e => .inl (.inl e)), ?_, h2.fr f (fun k e => by rw [e]; exact h5)⟩
 ·have := blk_set h.link 4 (.int .i64 z)
  unfold LinkAt
  simpa using this
 ·exact Kd.R_set h1 h.link (by decide) 4 _
theorem SLx.appended {A : Option Addr} {m c : Nat} {v1 : Value} {ss : List Sl} (h : SLx w wr g gp gs gst gc gt gr last KY M nx l g8 c8 i v A m c) (hs0 : Slr w gs gst gc 0 KY M nx) (hg0 : g < w.heap.size) (hR : slK.R 22 wr w.heap.size (fun _ => True) v ss) (hD : Dgs w.heap.size wr ss (dgs KY M nx l i)) (hR1 : slK.R 22 w1 w.heap.size (fun _ => True) v1 (ss ++ [⟨A, m, c⟩])) (hg : wr.grownBy w1 v.ownBlock) :
  SL w w1 g gp gs gst gc gt gr last KY M nx l g8 c8 (i + 1) v1 := by
 have hlt := hs0.lt
 have f := fr_of_grown hg
 have hb : ∀ k, some k = v.ownBlock → w.heap.size ≤ k := fun k e => Kd.R_base hR k e.symm
 have h5 : ∀ k, some k = v.ownBlock → ¬ T5 wr k := fun k e => by
  obtain ⟨cells, hh⟩ := own_typed (Kd.R_own hR).choose_spec k e.symm
  exact T5.not hh (by decide)
 refine ⟨h.link.fr f (fun e => by have := hb _ e; omega), ?_, Kd.R_over h.parts hR (by decide) hg, h.fr.trans f (fun k e => .inr (hb k e)), ⟨_, hR1, ?_⟩⟩
 ·have := h.slr.fr f (fun e => by have := hb _ e; omega) (fun e => by have := hb _ e; omega) (fun e => by have := hb _ e; omega)
  rw [show nx + ((i + 1 : Nat) : Int) = nx + (i : Int) + 1 by omega]
  exact this
 ·rw [dgs_succ]
  exact (hD.fr f h5).app (Dgs.one (h.new.fr f h5))
end
set_option maxHeartbeats 8000000 in
set_option maxRecDepth 100000 in
theorem send_calls (g gp gs gst gc gt gr : Nat) (last now : Int) (KY M : List Int) (hK : KY.length = 16 ∧ AllB KY) (hM : M.length = 16) (nx : Int) (hnx : 1 ≤ nx ∧ nx + 4 ≤ 64) (l : List Int) (A : Option Addr) (c : Nat) (w : World) (h : LinkAt w g gp gs gt gr last) (hs : Slr w gs gst gc 0 KY M nx) (hne : g ≠ gs ∧ g ≠ gst ∧ g ≠ gc) (hr : (Kd.int .u8).C w A l.length l) (hc : l.length ≤ c) (hl : l.length ≤ 1500) :
  Calls Tryz.prog 6 #[.pointer (some ⟨g, 0, none⟩), .int .i64 now, .slice A l.length c] w fun e w' => ∃ v last' ss, e = .returned (.tuple #[v, .int .i64 0]) ∧ SendPost w w' g gp gs gst gc gt gr KY M nx l v last' ss := by
 have HL := Aside0.mk h
 have HS := Aside0.mk hs
 have HK := Aside0.mk (And.intro hK hM)
 have HN := Aside0.mk hnx
 have HC := Aside0.mk (And.intro hr (And.intro hc hl))
 have HE := Aside0.mk hne
 have HQ := Aside0.mk (cnt_le hl)
 have HP := Aside0.mk (split_f hl (id := nx) (by omega))
 have hc1 := h.c1
 clear h hs hK hM hnx hr hc hl hne
 go_enter Tryz.func6, Tryz.ntmps6
 go_wp2_with (first
  | (go_at_call 13; refine (linkMade_calls g gp gs gt gr last _ HL.out).mono ?_; rintro e w2 ⟨rfl, hw2⟩; have hw2 := hw2.symm; subst hw2)
  | (go_at_call 14; refine (linkClosed_calls g gp gs gt gr last gst gc KY M HK.out.2 nx (by have := HN.out; omega) _ HL.out HS.out).mono ?_; rintro e w2 ⟨rfl, hw2⟩; have hw2 := hw2.symm; subst hw2)
  | (go_at_call 16; refine (next_calls gs gst 0 nx M HK.out.2 (by have := HN.out; omega) _ HS.out.b).mono ?_; rintro e w2 ⟨rfl, hw2⟩; have hw2 := hw2.symm; subst hw2)
  | (go_at_call 15; refine (frag_Split.calls (cnt l + 1) nx A c l (partsV nx l) 0 _ HC.out.1 HC.out.2.1 HP.out).mono ?_; rintro e w3 ⟨v8, rfl, hS, hw⟩; have hR := Kd.S_R hS; obtain ⟨A8, c8, rfl, hc8, hC8⟩ := Kd.R_reads hR; have hpl : (partsV nx l).length = cnt l := (by unfold partsV; simp); obtain ⟨g8, cap8, e8, _⟩ := Kd.R_form hR (by rw [hpl]; have := HQ.out; omega); injection e8 with e81 e82 e83; subst e81 e83; rw [hpl] at hR ⊢; have HX3 : Aside0 (SL w w3 g gp gs gst gc gt gr last KY M nx l g8 c8 0 (.slice none 0 0)) := ⟨HL.out.below hw, (by simpa using HS.out.below hw), hR, Fr.of_below hw _, [], Kd.R_nil _ _ _ _ _, Dgs.nil _ _⟩; clear hS hw hR hC8 hc8 hpl e82))
 go_loopg [10, 38] (cnt l) (fun kq v10 v38 w' => ∃ i : Nat, v38 = .int .i64 (i : Int) ∧ Aside0 (kq = cnt l - i ∧ i ≤ cnt l) ∧ Aside0 (SL w w' g gp gs gst gc gt gr last KY M nx l g8 c8 i v10))
 case atStart => exact ⟨0, by first | rfl | simp, ⟨by omega⟩, by first | exact HX3 | (simp; exact HX3)⟩
 case round =>
  obtain ⟨i, rfl, HK2, HXi⟩ := hrel
  by_cases c1 : i < cnt l
  ·have c1b : decide ((i : Int) < (cnt l : Int)) = true := decide_eq_true (by omega)
   have c1c : decide (i < cnt l) = true := decide_eq_true c1
   have h0t := eq_true (show (0 : Int) ≤ (i : Int) by omega)
   have h1t := eq_true (show (i : Int) < (cnt l : Int) by omega)
   obtain ⟨A3, c3, hrg, hcc3, hC3⟩ := part_at HXi.out.parts i c1
   have HW := Aside0.mk (write_f (chunk_ok HC.out.2.2 (id := nx) (by have := HN.out; omega) i c1))
   obtain ⟨L3, hL3⟩ : ∃ L, (chunk l i).length = L := ⟨_, rfl⟩
   rw [hL3] at hrg hcc3
   have HR3 := Aside0.mk hrg
   have HC3 : Aside0 (L3 ≤ c3 ∧ (Kd.int .u8).C wr A3 (chunk l i).length (chunk l i) ∧ (chunk l i).length = L3 ∧ L3 ≤ 480) := ⟨hcc3, hC3, hL3, by have := (chunk_ok HC.out.2.2 (id := nx) (by have := HN.out; omega) i c1).2.2.1; omega⟩
   have HI := Aside0.mk c1
   clear hrg hcc3 hC3 hL3 c1
   go_wp2_with (first
    | ((with_reducible refine gate_dst (N := 41) rfl ?_); refine wpList_load_mid rfl 60 (.tmp 40) rfl g8 (i * 4) rfl [.int .u64 nx, .int .i64 (i : Int), .int .i64 (cnt l : Int), .slice A3 L3 c3] _ HR3.out Tryz.underlying60 rfl size60 ?_)
    | (go_at_call 17; refine (write_n HW.out HC3.out.2.2.1 HC3.out.1 _ (Kd.C_below HC3.out.2.1 (below_alloc (Below.refl _ _) _))).mono ?_; rintro e w6 ⟨A13, LW, c13, hLW, hcW, rfl, hy, hw⟩; have HX6 : Aside0 (SL w w6 g gp gs gst gc gt gr last KY M nx l g8 c8 i u10 ∧ Byt wr.heap.size w6 (.slice A13 LW c13) (wrV nx i (cnt l) (chunk l i)) ∧ LW = (wrV nx i (cnt l) (chunk l i)).length ∧ LW ≤ c13 ∧ LW ≤ 483) := ⟨(HXi.out.below (below_alloc (Below.refl _ _) _)).below hw, hy.lower (below_alloc (Below.refl wr.heap.size wr) _).size, hLW, hcW, by have := wrV_len nx i (cnt l) (chunk l i); have := HC3.out.2.2; omega⟩; have hc6 := HX6.out.1.link.c1; clear hw hy hLW hcW)
    | (go_at_call 18; refine (seal_n (p := wrV nx i (cnt l) (chunk l i)) HK.out.1 HK.out.2 (by have := HN.out; have := HI.out; have := HQ.out; omega) HX6.out.1.slr HX6.out.2.1 (by have := HXi.out.slr.lt; omega) HX6.out.2.2.1 HX6.out.2.2.2.1 (by have := HX6.out.2.2.2.2; omega)).mono ?_; rintro e w7 ⟨A15, n15, c15, rfl, hy, hs7, hf⟩; have HX7 := Aside0.mk (HX6.out.1.sealed HS.out HE.out hf hs7 hy); clear hy hs7 hf; obtain ⟨ss, hss, hR7, hD7⟩ := HX7.out.out; have HR7 : Aside0 (slK.R 22 w7 w.heap.size (fun _ => True) u10 ss ∧ Dgs w.heap.size w7 ss (dgs KY M nx l i) ∧ ss.length = i) := ⟨hR7, hD7, hss⟩; clear hss hR7 hD7)
    | ((with_reducible refine gate_builtin (b := .append) (xs := #[.tmp 62, .tmp 64]) rfl ?_); at_builtin; refine Kd.R_append slK (w0 := w7) w.heap.size rfl (.tmp 62) (.tmp 64) 23 22 (.slice none 0 0) 24 rfl Tryz.underlying23 info22 rfl (by decide) (by decide) _ ss ⟨A15, n15, c15⟩ [.slice A15 n15 c15] (fun _ => True) (fun _ => False) rfl rfl rfl (fun _ hk => hk.elim) (fun _ _ => trivial) HR7.out.1 (Below.refl _ _) HX7.out.fr.size (by have := HR7.out.2.2; have := HI.out; have := HQ.out; omega) ?_; intro v8 w8 ho hb hg hat; have HX8 := Aside0.mk (HX7.out.appended HS.out (blk_lt HL.out) HR7.out.1 HR7.out.2.1 ho hg); clear ho hb hg hat))
   go_roundg (gk - 1)
   case measure => have := HK2.out; have := HI.out; omega
   case rel =>
    refine ⟨i + 1, ?_, ⟨by have := HK2.out; have := HI.out; omega⟩, HX8⟩
    have := HI.out
    have := HQ.out
    first
    | rfl
    | (congr 1; unfold wrap64; omega)
    | (congr 1; done)
  ·have hi : i = cnt l := by have := HK2.out; omega
   have c1b : decide ((i : Int) < (cnt l : Int)) = false := decide_eq_false (by omega)
   have c1c : decide (i < cnt l) = false := decide_eq_false c1
   have hc4 := HXi.out.link.c4
   have hf4 := blk_frozen HXi.out.link 4
   have HI := Aside0.mk hi
   clear c1 hi
   go_wp2
   all_goals
    go_ret2
    exact ⟨_, rfl, _, HXi.out.done HI.out HE.out _⟩
end Go.Proofs.YteadamkkbgnpeaaGreat.K
end OfK4
section OfK5
set_option linter.unusedVariables false
set_option linter.unusedSimpArgs false
namespace Go.Proofs.YteadamkkbgnpeaaGreat.K
open Go.RowKit Go.ChangeMaps YteadamkkbgnpeaaGreatW.PrintLast PeerFacts J F L M A B S QTC YteadamkkbgnpeaaGreatW.PrintWords YteadamkkbgnpeaaGreatW.PrintMore
/-- A link that hears, in memory. -/
structure LB (gf : Frs) (N0 : Nat) (w : World) (g gp gs gst gc gt gm gr : Nat) (KY M : List Int) (N f fl : Int) (T : List J.Op) (clock : Nat) : Prop where
 link : LinkAt w g gp gs gt gr 0
 slr : Slr w gs gst gc 1 KY M 1
 peer : PeerAt w gp N f
 tab : TabSt gf N0 w gt gm fl T clock
theorem not_foot {w : World} {N0 k t : Nat} {cs : Array Value} {fr : Nat × Nat} (h : w.heap[k]? = some (.cells cs t fr)) (ht : t ≠ 91 ∧ t ≠ 113) : ¬ Foot N0 w k := fun e => (e.2.not h).elim ht.1 ht.2
theorem CipK.heap {w : World} {g : Nat} {key : List Int} (h : CipK w g key) : ∃ cs, w.heap[g]? = some (.cells cs 149 (0, 0)) := by obtain ⟨r, h | h⟩ := h <;> exact ⟨_, h⟩
section
variable {gf : Frs} {N0 : Nat} {w w1 : World} {g gp gs gst gc gt gm gr clock : Nat} {KY M : List Int} {N f fl : Int} {T : List J.Op} {S : Nat → Prop}
theorem LB.below (h : LB gf N0 w g gp gs gst gc gt gm gr KY M N f fl T clock) (k : Below w.heap.size w w1) : LB gf N0 w1 g gp gs gst gc gt gm gr KY M N f fl T clock := ⟨h.link.below k, h.slr.below k, h.peer.below k, h.tab.below k⟩
theorem LB.fr (h : LB gf N0 w g gp gs gst gc gt gm gr KY M N f fl T clock) (k : Fr w w1 S) (hS : ∀ k, S k → k ≠ g ∧ k ≠ gs ∧ k ≠ gst ∧ k ≠ gc ∧ k ≠ gp ∧ ¬ Foot N0 w k ∧ ¬ T5 w k) : LB gf N0 w1 g gp gs gst gc gt gm gr KY M N f fl T clock :=
 ⟨h.link.fr k (fun e => (hS _ e).1 rfl), h.slr.fr k (fun e => (hS _ e).2.1 rfl) (fun e => (hS _ e).2.2.1 rfl) (fun e => (hS _ e).2.2.2.1 rfl), h.peer.fr k (fun e => (hS _ e).2.2.2.2.1 rfl), h.tab.fr k (fun i e => (hS i e).2.2.2.2.2)⟩
/-- A datagram was opened. -/
theorem LB.opened (h : LB gf N0 w g gp gs gst gc gt gm gr KY M N f fl T clock) (k : Fr w w1 (fun k => k = gc)) (hs : Slr w1 gs gst gc 1 KY M 1) : LB gf N0 w1 g gp gs gst gc gt gm gr KY M N f fl T clock := by
 obtain ⟨cc, hcc⟩ := CipK.heap h.slr.c
 obtain ⟨b, mv, hp, hJ⟩ := h.peer
 refine ⟨h.link.fr k (blk_ne h.link hcc (by decide)), hs, PeerAt.fr ⟨b, mv, hp, hJ⟩ k (blk_ne hp hcc (by decide)), h.tab.fr k (fun i e => ?_)⟩
 rw [e]
 exact ⟨not_foot hcc (by decide), h.slr.not5.2.2⟩
/-- A nonce was heard. -/
theorem LB.heard (h : LB gf N0 w g gp gs gst gc gt gm gr KY M N f fl T clock) {N' f' : Int} (k : Fr w w1 (fun k => k = gp)) (hp1 : PeerAt w1 gp N' f') : LB gf N0 w1 g gp gs gst gc gt gm gr KY M N' f' fl T clock := by
 obtain ⟨cc, hcc⟩ := CipK.heap h.slr.c
 obtain ⟨b, mv, hp, hJ⟩ := h.peer
 refine ⟨h.link.fr k (blk_ne h.link hp (by decide)), h.slr.fr k (blk_ne h.slr.b hp (by decide)) (blk_ne h.slr.s hp (by decide)) (blk_ne hcc hp (by decide)), hp1, h.tab.fr k (fun i e => ?_)⟩
 rw [e]
 exact ⟨not_foot hp (by decide), T5.not hp (by decide)⟩
/-- A part was put. -/
theorem LB.put (h : LB gf N0 w g gp gs gst gc gt gm gr KY M N f fl T clock) {fl' : Int} {T' : List J.Op} {clock' : Nat} (k : Fr w w1 (Foot N0 w)) (ht : TabSt gf N0 w1 gt gm fl' T' clock') : LB gf N0 w1 g gp gs gst gc gt gm gr KY M N f fl' T' clock' := by
 obtain ⟨cc, hcc⟩ := CipK.heap h.slr.c
 obtain ⟨b, mv, hp, hJ⟩ := h.peer
 exact ⟨h.link.fr k (not_foot h.link (by decide)), h.slr.fr k (not_foot h.slr.b (by decide)) (not_foot h.slr.s (by decide)) (not_foot hcc (by decide)), PeerAt.fr ⟨b, mv, hp, hJ⟩ k (not_foot hp (by decide)), ht⟩
/-- What Hear writes. -/
def HFoot (N0 gp gc : Nat) (w : World) (k : Nat) : Prop := k = gp ∨ k = gc ∨ Foot N0 w k
theorem hfoot_back {N0 gp gc : Nat} {w wr : World} (f : Fr w wr (HFoot N0 gp gc w)) (hN : N0 ≤ w.heap.size) {k : Nat} (h : Foot N0 wr k) : HFoot N0 gp gc w k ∨ w.heap.size ≤ k := by
 rcases Nat.lt_or_ge k w.heap.size with hk | hk
 ·rcases Classical.em (HFoot N0 gp gc w k) with h1 | h1
  ·exact .inl h1
  ·refine .inl (.inr (.inr ⟨h.1, ?_⟩))
   have := f.block k hk h1
   rcases h.2 with ⟨cs, t, fr, e, ht⟩ | ⟨es, c, e⟩
   ·exact .inl ⟨cs, t, fr, by rw [← this]; exact e, ht⟩
   ·exact .inr ⟨es, c, by rw [← this]; exact e⟩
 ·exact .inr hk
theorem LB.not5 (h : LB gf N0 w g gp gs gst gc gt gm gr KY M N f fl T clock) : ∀ k, HFoot N0 gp gc w k → ¬ T5 w k := by
 obtain ⟨b, mv, hp, hJ⟩ := h.peer
 rintro k (rfl | rfl | hk)
 ·exact T5.not hp (by decide)
 ·exact h.slr.not5.2.2
 ·exact hk.2.not5
end
/-- What Put told, seen from ahead of Hear. -/
structure PutP (gf : Frs) (w w' : World) (fl : Int) (T : List J.Op) (id : Int) (v : Value) (told : Bool) (er fl' : Int) (T' : List J.Op) : Prop where
 ids : ∀ x ∈ T', x.id = id ∨ ∃ y ∈ T, y.id = x.id
 fl1 : fl ≤ fl'
 fl2 : fl' = fl ∨ fl' = id + 1 ∨ ∃ y ∈ T, fl' = y.id + 1
 yes : told = true → er = 0 ∧ fl ≤ id ∧ fl' = id + 1 ∧ Byt w.heap.size w' v (gf id).flatten
 sure : (gf id).length = 1 → fl ≤ id → (∀ y ∈ T, y.id < id) → told = true
/-- What Hear tells, and leaves. -/
structure HearPost (gf : Frs) (N0 : Nat) (w w' : World) (g gp gs gst gc gt gm gr : Nat) (KY M : List Int) (N f fl : Int) (T : List J.Op) (nn a id : Int) (v : Value) (told : Bool) (er N' f' fl' : Int) (T' : List J.Op) (clock' : Nat) : Prop where
 lb : LB gf N0 w' g gp gs gst gc gt gm gr KY M N' f' fl' T' clock'
 fr : Fr w w' (HFoot N0 gp gc w)
 ids : ∀ x ∈ T', x.id = id ∨ ∃ y ∈ T, y.id = x.id
 fl1 : fl ≤ fl'
 fl2 : fl' = fl ∨ fl' = id + 1 ∨ ∃ y ∈ T, fl' = y.id + 1
 yes : told = true → er = 0 ∧ fl ≤ id ∧ fl' = id + 1 ∧ Byt w.heap.size w' v (gf id).flatten
 pn : N' = N ∨ N' = nn
 sure : N < nn → (gf id).length = 1 → fl ≤ id → (∀ y ∈ T, y.id < id) → told = true ∧ N' = nn ∧ f' = a
def HearOut (gf : Frs) (N0 : Nat) (w : World) (g gp gs gst gc gt gm gr : Nat) (KY M : List Int) (N f fl : Int) (T : List J.Op) (nn a id : Int) (e : Ending) (w' : World) : Prop :=
 ∃ v told er N' f' fl' T' clock', e = .returned (.tuple #[v, .bool told, .int .i64 er]) ∧ HearPost gf N0 w w' g gp gs gst gc gt gm gr KY M N f fl T nn a id v told er N' f' fl' T' clock'
/-- A datagram is opened: its bytes in a row. -/
theorem open_n {gs gst gc : Nat} {KY M : List Int} (hK : KY.length = 16 ∧ AllB KY) (hM : M.length = 16) {nn : Int} (hn : 1 ≤ nn ∧ nn ≤ 1000000) {p : List Int} (hp : p.length ≤ 512 ∧ AllB p) {A : Option Addr} {L c : Nat} (hL : L = (dgV KY M nn p).length) (hc : L ≤ c) (w : World) (hs : Slr w gs gst gc 1 KY M 1) (hr : (Kd.int .u8).C w A (dgV KY M nn p).length (dgV KY M nn p)) :
  Calls Tryz.prog 19 #[.pointer (some ⟨gs, 0, none⟩), .slice A L c] w fun e w' => ∃ A' L' c', e = .returned (.tuple #[.int .u64 nn, .slice A' L' c', .int .i64 0]) ∧ L' = p.length ∧ L' ≤ c' ∧ Byt w.heap.size w' (.slice A' L' c') p ∧ Slr w' gs gst gc 1 KY M 1 ∧ Fr w w' (fun k => k = gc) := by
 subst hL
 have hb : (dgV KY M nn p).take (8 + p.length) = bodyV KY nn p := by rw [dgV_eq, List.take_left' (bodyV_len KY nn p)]
 have hd : (dgV KY M nn p).drop (8 + p.length) = (markV M (bodyV KY nn p)).take 16 := by rw [dgV_eq, List.drop_left' (bodyV_len KY nn p)]
 refine (open_calls gs gst gc KY M hK hM 1 nn hn p (dgV KY M nn p) hp (dgV_len KY M nn p) hb (by rw [hd]; exact (markV_b _ _).take _) A c w hs hr hc true (by rw [hd]; exact decide_eq_true rfl)).mono ?_
 rintro e w' ⟨v, rfl, hy, hs', hf⟩
 obtain ⟨A', c', rfl, h1, _, _⟩ := hy.out
 exact ⟨A', _, c', rfl, rfl, h1, hy, hs', hf⟩
theorem read_n {id : Int} {i n : Nat} {d : List Int} (hR : frag_Read.f 1 (wrV id i n d) = some (id, (i : Int), (n : Int), d, 0)) {A : Option Addr} {L c B : Nat} {w : World} (hy : Byt B w (.slice A L c) (wrV id i n d)) :
  Calls Tryz.prog 21 #[.slice A L c] w fun e w' => ∃ A' L' c', e = .returned (.tuple #[.agg #[.int .u64 id, .int .i64 (i : Int), .int .i64 (n : Int), .slice A' L' c'], .int .i64 0]) ∧ d.length = L' ∧ Byt w.heap.size w' (.slice A' L' c') d ∧ Below w.heap.size w w' := by
 obtain ⟨A0, c0, e0, h1, h2, h3⟩ := hy.out
 injection e0 with e1 e2 e3
 subst e1 e3
 subst e2
 refine (frag_Read.calls 1 A c (wrV id i n d) _ _ _ _ _ w h2 h1 hR).mono ?_
 rintro e w' ⟨v, rfl, hr, hw⟩
 have hy' := Byt.of_R hr
 obtain ⟨A', c', rfl, _, _⟩ := Kd.R_reads hr
 exact ⟨A', _, c', rfl, rfl, hy', hw⟩
def K_hear.T12 : Bool × List (List Nat × List Nat) := (true, [([], []), ([0], [0]), ([1], [1]), ([2], [2]), ([], []), ([3, 4], [3, 4]), ([5], [5]), ([5], [5]), ([5], [5]), ([6, 5, 0, 1, 2, 3, 4, 5, 6, 7, 8], [6]), ([7, 9, 0, 1, 2, 3, 4, 5, 6, 7, 8, 9], [7]), ([8, 10, 0, 1, 2, 3, 4, 5, 6, 7, 8, 9, 10], [8])])
def K_hear.B12 : List Nat := [0, 1, 3, 7, 0, 31, 63, 63, 63, 511, 1023, 2047]
theorem K_hear.tab12 : rtab .any (opsOf Tryz.f7 12) = K_hear.T12 := by kernel_rfl
theorem K_hear.bits12 : waitsOk K_hear.T12.2 K_hear.B12 = true := by kernel_rfl
set_option maxHeartbeats 8000000 in
set_option maxRecDepth 100000 in
theorem hear_ok_calls (gf : Frs) (N0 g gp gs gst gc gt gm gr : Nat) (KY M : List Int) (hK : KY.length = 16 ∧ AllB KY) (hM : M.length = 16) (N f fl : Int) (T : List J.Op) (clock : Nat) (nn a id : Int) (i n : Nat) (d : List Int) (hn : 1 ≤ nn ∧ nn ≤ 1000000) (hW : Whole id (gf id).length (gf id)) (hi : i < (gf id).length) (hgn : (gf id).length = n) (hd : (gf id).getD i [] = d) (hdb : AllB d)
  (A : Option Addr) (L c : Nat) (hL : L = (dgV KY M nn (wrV id i n d)).length) (hc : L ≤ c) (w : World) (h : LB gf N0 w g gp gs gst gc gt gm gr KY M N f fl T clock) (hN : N0 ≤ w.heap.size) (hr : (Kd.int .u8).C w A (dgV KY M nn (wrV id i n d)).length (dgV KY M nn (wrV id i n d))) :
  Calls Tryz.prog 7 #[.pointer (some ⟨g, 0, none⟩), .int .u32 a, .slice A L c] w fun e w' => HearOut gf N0 w g gp gs gst gc gt gm gr KY M N f fl T nn a id e w' := by
 have hok : pOk id (i : Int) (n : Int) d := by have := hW.ok i hi; rw [hgn, hd] at this; exact this
 have HB := Aside0.mk h
 have HK := Aside0.mk (And.intro hK hM)
 have HNN := Aside0.mk hn
 have HW := Aside0.mk (And.intro hW (And.intro hi (And.intro hgn hd)))
 have HR := Aside0.mk (read_f hok)
 have HC := Aside0.mk (And.intro hL (And.intro hc hr))
 have HPL := Aside0.mk (show (wrV id i n d).length ≤ 512 ∧ AllB (wrV id i n d) from ⟨by rw [wrV_len]; have := hok.2.2.1; omega, wrV_b hok hdb⟩)
 have H0 := Aside0.mk hN
 have hc1 := h.link.c1
 clear h hK hM hn hW hi hgn hd hdb hok hL hc hr hN
 go_enter Tryz.func7, Tryz.ntmps7
 go_wp2_with (first
  | (go_at_call 13; refine (linkMade_calls g gp gs gt gr 0 _ HB.out.link).mono ?_; rintro e w2 ⟨rfl, hw2⟩; have hw2 := hw2.symm; subst hw2)
  | (go_at_call 19; refine (open_n HK.out.1 HK.out.2 HNN.out HPL.out HC.out.1 HC.out.2.1 _ HB.out.slr HC.out.2.2).mono ?_; rintro e w3 ⟨A3, L3, c3, rfl, hL3, hc3, hy, hs, hf⟩; have HX3 : Aside0 (LB gf N0 w3 g gp gs gst gc gt gm gr KY M N f fl T clock ∧ Byt w.heap.size w3 (.slice A3 L3 c3) (wrV id i n d) ∧ Fr w w3 (HFoot N0 gp gc w)) := ⟨HB.out.opened hf hs, hy, hf.mono (fun k e => .inr (.inl e))⟩; have hc30 := HX3.out.1.link.c0; clear hy hs hf hL3 hc3)
  | (go_at_call 20; refine (hear_calls gp N f nn a HNN.out.1 HNN.out.2 _ HX3.out.1.peer).mono ?_; rintro e w4 ⟨rb, er4, N4, f4, rfl, hh⟩; have HX4 : Aside0 (LB gf N0 w4 g gp gs gst gc gt gm gr KY M N4 f4 fl T clock ∧ Byt w.heap.size w4 (.slice A3 L3 c3) (wrV id i n d) ∧ Fr w w4 (HFoot N0 gp gc w) ∧ (N4 = N ∨ N4 = nn) ∧ (N < nn → er4 = 0 ∧ N4 = nn ∧ f4 = a)) := ⟨HX3.out.1.heard hh.fr hh.peer, HX3.out.2.1.fr hh.fr (fun k e => HX3.out.1.not5 k (.inl e)), HX3.out.2.2.trans hh.fr (fun k e => .inl (.inl e)), hh.same.elim (fun e => .inl e.1) (fun e => .inr e.1), hh.new⟩; clear hh)
  | (go_at_call 21; refine (read_n HR.out HX4.out.2.1).mono ?_; rintro e w5 ⟨A5, L5, c5, rfl, hL5, hy, hw⟩; have HX5 : Aside0 (LB gf N0 w5 g gp gs gst gc gt gm gr KY M N4 f4 fl T clock ∧ Byt 0 w5 (.slice A5 L5 c5) d ∧ d.length = L5 ∧ Fr w w5 (HFoot N0 gp gc w)) := ⟨HX4.out.1.below hw, hy.lower (Nat.zero_le _), hL5, HX4.out.2.2.1.then_below hw⟩; clear hy hw hL5))
 ·rename_i hne
  go_ret3
  exact ⟨_, false, _, N4, f4, fl, T, clock, rfl, HX4.out.1, HX4.out.2.2.1, fun x hx => .inr ⟨x, hx, rfl⟩, Int.le_refl _, .inl rfl, (fun e => by cases e), HX4.out.2.2.2.1, fun hlt => by rw [(HX4.out.2.2.2.2 hlt).1] at hne; exact absurd hne (by decide)⟩
 ·have HX6 : Aside0 (LB gf N0 (w5.alloc (.cells #[.int .u64 id, .int .i64 (i : Int), .int .i64 (n : Int), .slice A5 L5 c5] 60)) g gp gs gst gc gt gm gr KY M N4 f4 fl T clock ∧ (w5.alloc (.cells #[.int .u64 id, .int .i64 (i : Int), .int .i64 (n : Int), .slice A5 L5 c5] 60)).heap[w5.heap.size]? = some (.cells #[.int .u64 id, .int .i64 (i : Int), .int .i64 (n : Int), .slice A5 L5 c5] 60 (0, 0)) ∧ Byt 0 (w5.alloc (.cells #[.int .u64 id, .int .i64 (i : Int), .int .i64 (n : Int), .slice A5 L5 c5] 60)) (.slice A5 L5 c5) d ∧ Fr w (w5.alloc (.cells #[.int .u64 id, .int .i64 (i : Int), .int .i64 (n : Int), .slice A5 L5 c5] 60)) (HFoot N0 gp gc w)) := ⟨HX5.out.1.below (below_alloc (Below.refl _ _) _), blk_new _ _, HX5.out.2.1.below (below_alloc (Below.refl _ _) _), HX5.out.2.2.2.then_below (below_alloc (Below.refl _ _) _)⟩
  generalize w5.heap.size = gx at HX6 ⊢
  generalize w5.alloc (.cells #[.int .u64 id, .int .i64 (i : Int), .int .i64 (n : Int), .slice A5 L5 c5] 60) = w6 at HX6 ⊢
  have HX7 : Aside0 (LB gf N0 w6.drew g gp gs gst gc gt gm gr KY M N4 f4 fl T clock ∧ w6.drew.heap[gx]? = some (.cells #[.int .u64 id, .int .i64 (i : Int), .int .i64 (n : Int), .slice A5 L5 c5] 60 (0, 0)) ∧ Byt 0 w6.drew (.slice A5 L5 c5) d ∧ Fr w w6.drew (HFoot N0 gp gc w)) := ⟨HX6.out.1.below (below_drew (Below.refl _ _)), HX6.out.2.1, HX6.out.2.2.1.below (below_drew (Below.refl _ _)), HX6.out.2.2.2.then_below (below_drew (Below.refl _ _))⟩
  refine start_ (n := 12) (S := fun w' => w'.cell? ⟨g, 2, none⟩ = some (.pointer (some ⟨gt, 0, none⟩)) ∧ w'.heap[gx]? = some (.cells #[.int .u64 id, .int .i64 (i : Int), .int .i64 (n : Int), .slice A5 L5 c5] 60 (0, 0))) (ds := [5]) #[false, false, false, false, false, false, false, false, false, false, false, false] (by kernel_rfl) rfl rfl ⟨HX7.out.1.link.c2, HX7.out.2.1⟩ (fun hHeld => ?_)
  refine with_tabW K_hear.tab12 K_hear.bits12 (fun HT_ HW_ => ?_)
  generalize w6.drew = x7 at HX7 hHeld ⊢
  refine pure_ (i := 0) (N := some 53) (v := ?_) (a' := ?_) #[true, false, false, false, false, false, false, false, false, false, false, false] rfl rfl (any_of HT_.out (by kernel_rfl)) (fun _ _ _ h => h) (Or.inl ⟨by rfl, ?_⟩) ?_ ?_
  rotate_left
  ·intro w'
   go_simp
   with_reducible rfl
  rotate_left
  ·simp only [Act.put, List.setIfInBounds_toArray, List.set_cons_zero, List.set_cons_succ, i64_w, i32_w]
   rfl
  refine pure_ (i := 1) (N := some 54) (v := ?_) (a' := ?_) #[true, true, false, false, false, false, false, false, false, false, false, false] rfl rfl (any_of HT_.out (by kernel_rfl)) (fun _ _ _ h => h) (Or.inl ⟨by rfl, ?_⟩) ?_ ?_
  rotate_left
  ·intro w'
   go_simp
   with_reducible rfl
  rotate_left
  ·simp only [Act.put, List.setIfInBounds_toArray, List.set_cons_zero, List.set_cons_succ, i64_w, i32_w]
   rfl
  refine pure_ (i := 2) (N := some 55) (v := ?_) (a' := ?_) #[true, true, true, false, false, false, false, false, false, false, false, false] rfl rfl (any_of HT_.out (by kernel_rfl)) (fun _ _ _ h => h) (Or.inl ⟨by rfl, ?_⟩) ?_ ?_
  rotate_left
  ·intro w'
   go_simp
   with_reducible rfl
  rotate_left
  ·simp only [Act.put, List.setIfInBounds_toArray, List.set_cons_zero, List.set_cons_succ, i64_w, i32_w]
   rfl
  refine take_ (i := 3) (N := some 56) (v := ?_) (a' := ?_) #[true, true, true, true, false, false, false, false, false, false, false, false] rfl rfl (take_ofW HT_.out HW_.out (by kernel_rfl)) (fun _ _ _ h => h) (Or.inl ⟨by rfl, ?_⟩) hHeld ?_ ?_
  rotate_left
  ·rintro w' ⟨s0, s1⟩
   go_simp
   with_reducible rfl
  rotate_left
  ·simp only [Act.put, List.setIfInBounds_toArray, List.set_cons_zero, List.set_cons_succ, i64_w, i32_w]
   rfl
  refine take_ (i := 4) (N := some 57) (v := .agg (#[.int .u64 id, .int .i64 (i : Int), .int .i64 (n : Int), .slice A5 L5 c5])) (a' := ?_) #[true, true, true, true, true, false, false, false, false, false, false, false] rfl rfl (take_ofW HT_.out HW_.out (by kernel_rfl)) (fun _ _ _ h => h) (yields_row (by rfl) 60 (.tmp 14) rfl gx rfl 60 (#[.int .u64 id, .int .i64 (i : Int), .int .i64 (n : Int), .slice A5 L5 c5]) _ (fun _ s => s.2) Tryz.underlying60 rfl size60) hHeld ?_ ?_
  rotate_left
  ·simp only [Act.put, List.setIfInBounds_toArray, List.set_cons_zero, List.set_cons_succ, i64_w, i32_w]
   rfl
  refine last_ (i := 5) (N := some 58) #[true, true, true, true, true, true, false, false, false, false, false, false] rfl rfl (one_of HT_.out (by kernel_rfl)) (by decide) (fun K hK => ?_)
  refine goes_ Tryz.func22 (by kernel_rfl) rfl #[.pointer (some ⟨gt, 0, none⟩), .agg #[.int .u64 id, .int .i64 (i : Int), .int .i64 (n : Int), .slice A5 L5 c5]] (by rfl) rfl rfl (by simp only [List.map_toArray, List.map_cons, List.map_nil]; rfl) ?_
  with_reducible refine (put_calls gf N0 gt gm fl T clock id i HW.out.1 HW.out.2.1 A5 c5 n L5 HW.out.2.2.1 (by rw [HW.out.2.2.2]; exact HX5.out.2.2.1) _ HX7.out.1.tab (by have := HX7.out.2.2.2.size; have := H0.out; omega) (by rw [HW.out.2.2.2]; exact HX7.out.2.2.1)).mono ?_
  rintro e x8 ⟨v8, told, er8, fl8, T8, clock8, rfl, hp⟩
  refine ⟨_, rfl, ?_⟩
  have HX8 : Aside0 (LB gf N0 x8 g gp gs gst gc gt gm gr KY M N4 f4 fl8 T8 clock8 ∧ Fr w x8 (HFoot N0 gp gc w) ∧ PutP gf w x8 fl T id v8 told er8 fl8 T8) := ⟨HX7.out.1.put hp.fr hp.st, HX7.out.2.2.2.trans hp.fr (fun k hk => hfoot_back HX7.out.2.2.2 H0.out hk), hp.ids, hp.fl1, hp.fl2, fun e => let ⟨h1, h2, h3, h4⟩ := hp.yes e; ⟨h1, h2, h3, h4.lower HX7.out.2.2.2.size⟩, hp.sure⟩
  clear hp
  refine hK.out _ _ ?_
  clear hK K
  refine norm_ (a' := ?_) ?_ ?_
  rotate_left
  ·show Act.put _ (some 58) _ = _
   simp only [Act.put, List.setIfInBounds_toArray, List.set_cons_zero, List.set_cons_succ, i64_w, i32_w]
   rfl
  refine pure_ (i := 6) (N := some 59) (v := ?_) (a' := ?_) #[true, true, true, true, true, true, true, false, false, false, false, false] rfl rfl (any_of HT_.out (by kernel_rfl)) (fun _ _ _ h => h) (Or.inl ⟨by rfl, ?_⟩) ?_ ?_
  rotate_left
  ·intro w'
   go_simp
   with_reducible rfl
  rotate_left
  ·simp only [Act.put, List.setIfInBounds_toArray, List.set_cons_zero, List.set_cons_succ, i64_w, i32_w]
   rfl
  refine pure_ (i := 7) (N := some 60) (v := ?_) (a' := ?_) #[true, true, true, true, true, true, true, true, false, false, false, false] rfl rfl (any_of HT_.out (by kernel_rfl)) (fun _ _ _ h => h) (Or.inl ⟨by rfl, ?_⟩) ?_ ?_
  rotate_left
  ·intro w'
   go_simp
   with_reducible rfl
  rotate_left
  ·simp only [Act.put, List.setIfInBounds_toArray, List.set_cons_zero, List.set_cons_succ, i64_w, i32_w]
   rfl
  refine pure_ (i := 8) (N := some 61) (v := ?_) (a' := ?_) #[true, true, true, true, true, true, true, true, true, false, false, false] rfl rfl (any_of HT_.out (by kernel_rfl)) (fun _ _ _ h => h) (Or.inl ⟨by rfl, ?_⟩) ?_ ?_
  rotate_left
  ·intro w'
   go_simp
   with_reducible rfl
  rotate_left
  ·simp only [Act.put, List.setIfInBounds_toArray, List.set_cons_zero, List.set_cons_succ, i64_w, i32_w]
   rfl
  refine pure_ (i := 9) (N := some 6) (v := ?_) (a' := ?_) #[true, true, true, true, true, true, true, true, true, true, false, false] rfl rfl (any_of HT_.out (by kernel_rfl)) (fun _ _ _ h => h) (Or.inl ⟨by rfl, ?_⟩) ?_ ?_
  rotate_left
  ·intro w'
   go_simp
   with_reducible rfl
  rotate_left
  ·simp only [Act.put, List.setIfInBounds_toArray, List.set_cons_zero, List.set_cons_succ, i64_w, i32_w]
   rfl
  refine pure_ (i := 10) (N := some 7) (v := ?_) (a' := ?_) #[true, true, true, true, true, true, true, true, true, true, true, false] rfl rfl (any_of HT_.out (by kernel_rfl)) (fun _ _ _ h => h) (Or.inl ⟨by rfl, ?_⟩) ?_ ?_
  rotate_left
  ·intro w'
   go_simp
   with_reducible rfl
  rotate_left
  ·simp only [Act.put, List.setIfInBounds_toArray, List.set_cons_zero, List.set_cons_succ, i64_w, i32_w]
   rfl
  refine pure_ (i := 11) (N := some 8) (v := ?_) (a' := ?_) #[true, true, true, true, true, true, true, true, true, true, true, true] rfl rfl (any_of HT_.out (by kernel_rfl)) (fun _ _ _ h => h) (Or.inl ⟨by rfl, ?_⟩) ?_ ?_
  rotate_left
  ·intro w'
   go_simp
   with_reducible rfl
  rotate_left
  ·simp only [Act.put, List.setIfInBounds_toArray, List.set_cons_zero, List.set_cons_succ, i64_w, i32_w]
   rfl
  refine done_ (done_of HT_.out (by kernel_rfl)) ?_

  go_wp2
  go_ret3
  exact ⟨_, _, _, N4, f4, _, _, _, rfl, HX8.out.1, HX8.out.2.1, HX8.out.2.2.ids, HX8.out.2.2.fl1, HX8.out.2.2.fl2, HX8.out.2.2.yes, HX4.out.2.2.2.1, fun hlt h1 h2 h3 => ⟨HX8.out.2.2.sure h1 h2 h3, (HX4.out.2.2.2.2 hlt).2.1, (HX4.out.2.2.2.2 hlt).2.2⟩⟩
end Go.Proofs.YteadamkkbgnpeaaGreat.K
end OfK5
section OfK6
set_option linter.unusedVariables false
set_option linter.unusedSimpArgs false
namespace Go.Proofs.YteadamkkbgnpeaaGreat.K
open Go.RowKit Go.ChangeMaps YteadamkkbgnpeaaGreatW.PrintLast PeerFacts J F L M A B S QTC YteadamkkbgnpeaaGreatW.PrintWords YteadamkkbgnpeaaGreatW.PrintMore
/-- A byte turned. -/
def x1 (x : Int) : Int := Go.bits .xor .u8 x 1
theorem x1_ok (x : Int) (h : 0 ≤ x ∧ x < 256) : 0 ≤ x1 x ∧ x1 x < 256 ∧ x1 x ≠ x := by
 have key : ∀ k : Fin 256, 0 ≤ x1 (k.val : Int) ∧ x1 (k.val : Int) < 256 ∧ x1 (k.val : Int) ≠ (k.val : Int) := by decide +kernel
 have := key ⟨x.toNat, by omega⟩
 rwa [show ((x.toNat : Nat) : Int) = x by omega] at this
/-- A datagram's last byte turned. -/
def turnD (l : List Int) : List Int := l.set (l.length - 1) (x1 (l.getD (l.length - 1) 0))
theorem turnD_len (l : List Int) : (turnD l).length = l.length := by unfold turnD; rw [List.length_set]
theorem turn_facts (KY M : List Int) (n : Int) (p : List Int) : (turnD (dgV KY M n p)).take (8 + p.length) = bodyV KY n p ∧ AllB ((turnD (dgV KY M n p)).drop (8 + p.length)) ∧ (markV M (bodyV KY n p)).take 16 ≠ (turnD (dgV KY M n p)).drop (8 + p.length) := by
 have hlen := dgV_len KY M n p
 have hb : (dgV KY M n p).take (8 + p.length) = bodyV KY n p := by rw [dgV_eq, List.take_left' (bodyV_len KY n p)]
 have hd : (dgV KY M n p).drop (8 + p.length) = (markV M (bodyV KY n p)).take 16 := by rw [dgV_eq, List.drop_left' (bodyV_len KY n p)]
 have hget : 0 ≤ (dgV KY M n p).getD ((dgV KY M n p).length - 1) 0 ∧ (dgV KY M n p).getD ((dgV KY M n p).length - 1) 0 < 256 := by
  rw [List.getD_eq_getElem?_getD, List.getElem?_eq_getElem (by omega)]
  exact dgV_b KY M n p _ (List.getElem_mem _)
 have hx := x1_ok _ hget
 have hall : AllB (turnD (dgV KY M n p)) := (dgV_b KY M n p).set _ ⟨hx.1, hx.2.1⟩
 refine ⟨?_, fun y hy => hall y (List.mem_of_mem_drop hy), fun e => ?_⟩
 ·unfold turnD
  rw [List.take_set_of_le (by omega), hb]
 ·rw [← hd] at e
  have e1 : ((dgV KY M n p).drop (8 + p.length))[15]? = ((turnD (dgV KY M n p)).drop (8 + p.length))[15]? := by rw [← e]
  rw [List.getElem?_drop, List.getElem?_drop] at e1
  unfold turnD at e1
  rw [List.getElem?_set, if_pos (by omega), if_pos (by omega)] at e1
  have e2 : (dgV KY M n p)[8 + p.length + 15]? = some ((dgV KY M n p).getD ((dgV KY M n p).length - 1) 0) := by
   rw [show (dgV KY M n p).length - 1 = 8 + p.length + 15 by omega, List.getD_eq_getElem?_getD, List.getElem?_eq_getElem (by omega)]
   rfl
  rw [e2] at e1
  injection e1 with e1
  exact hx.2.2 e1.symm
theorem openbad_n {gs gst gc : Nat} {KY M : List Int} (hK : KY.length = 16 ∧ AllB KY) (hM : M.length = 16) {nn : Int} (hn : 1 ≤ nn ∧ nn ≤ 1000000) {p : List Int} (hp : p.length ≤ 512 ∧ AllB p) {A : Option Addr} {L c : Nat} (hL : L = (turnD (dgV KY M nn p)).length) (hc : L ≤ c) (w : World) (hs : Slr w gs gst gc 1 KY M 1) (hr : (Kd.int .u8).C w A (turnD (dgV KY M nn p)).length (turnD (dgV KY M nn p))) :
  Calls Tryz.prog 19 #[.pointer (some ⟨gs, 0, none⟩), .slice A L c] w fun e w' => e = .returned (.tuple #[.int .u64 0, .slice none 0 0, .int .i64 20]) ∧ Below w.heap.size w w' := by
 subst hL
 obtain ⟨h1, h2, h3⟩ := turn_facts KY M nn p
 exact open_calls gs gst gc KY M hK hM 1 nn hn p (turnD (dgV KY M nn p)) hp (by rw [turnD_len]; exact dgV_len KY M nn p) h1 h2 A c w hs hr hc false (decide_eq_false h3)
set_option maxHeartbeats 8000000 in
set_option maxRecDepth 100000 in
theorem hear_bad_calls (gf : Frs) (N0 g gp gs gst gc gt gm gr : Nat) (KY M : List Int) (hK : KY.length = 16 ∧ AllB KY) (hM : M.length = 16) (N f fl : Int) (T : List J.Op) (clock : Nat) (nn a : Int) (p : List Int) (hn : 1 ≤ nn ∧ nn ≤ 1000000) (hp : p.length ≤ 512 ∧ AllB p)
  (A : Option Addr) (L c : Nat) (hL : L = (turnD (dgV KY M nn p)).length) (hc : L ≤ c) (w : World) (h : LB gf N0 w g gp gs gst gc gt gm gr KY M N f fl T clock) (hr : (Kd.int .u8).C w A (turnD (dgV KY M nn p)).length (turnD (dgV KY M nn p))) :
  Calls Tryz.prog 7 #[.pointer (some ⟨g, 0, none⟩), .int .u32 a, .slice A L c] w fun e w' => e = .returned (.tuple #[.slice none 0 0, .bool false, .int .i64 20]) ∧ Below w.heap.size w w' := by
 have HB := Aside0.mk h
 have HX := Aside0.mk (And.intro (And.intro hK hM) (And.intro hn (And.intro hp (And.intro hL (And.intro hc hr)))))
 have hc1 := h.link.c1
 clear h hK hM hn hp hL hc hr
 go_enter Tryz.func7, Tryz.ntmps7
 go_wp2_with (first
  | (go_at_call 13; refine (linkMade_calls g gp gs gt gr 0 _ HB.out.link).mono ?_; rintro e w2 ⟨rfl, hw2⟩; have hw2 := hw2.symm; subst hw2)
  | (go_at_call 19; refine (openbad_n HX.out.1.1 HX.out.1.2 HX.out.2.1 HX.out.2.2.1 HX.out.2.2.2.1 HX.out.2.2.2.2.1 _ HB.out.slr HX.out.2.2.2.2.2).mono ?_; rintro e w3 ⟨rfl, hw⟩; have HW := Aside0.mk hw; clear hw))
 go_ret3
 exact ⟨rfl, HW.out⟩
end Go.Proofs.YteadamkkbgnpeaaGreat.K
end OfK6
section OfK7
set_option linter.unusedVariables false
set_option linter.unusedSimpArgs false
namespace Go.Proofs.YteadamkkbgnpeaaGreat.K
open Go.RowKit Go.ChangeMaps YteadamkkbgnpeaaGreatW.PrintLast PeerFacts J F L M A B S QTC YteadamkkbgnpeaaGreatW.PrintWords YteadamkkbgnpeaaGreatW.PrintMore
/-- A link that sends, in memory; all of it below N0, from lo on. -/
structure LA (lo N0 : Nat) (w : World) (g gp gs gst gc gt gr : Nat) (KY M : List Int) (nx last : Int) : Prop where
 link : LinkAt w g gp gs gt gr last
 slr : Slr w gs gst gc 0 KY M nx
 lo : lo ≤ g ∧ lo ≤ gs ∧ lo ≤ gst ∧ lo ≤ gc
 hi : g < N0 ∧ gs < N0 ∧ gst < N0 ∧ gc < N0
section
variable {lo N0 : Nat} {w w1 : World} {g gp gs gst gc gt gr : Nat} {KY M : List Int} {nx last : Int} {S : Nat → Prop}
theorem LA.below (h : LA lo N0 w g gp gs gst gc gt gr KY M nx last) (k : Below w.heap.size w w1) : LA lo N0 w1 g gp gs gst gc gt gr KY M nx last := ⟨h.link.below k, h.slr.below k, h.lo, h.hi⟩
theorem LA.fr (h : LA lo N0 w g gp gs gst gc gt gr KY M nx last) (k : Fr w w1 S) (hS : ∀ k, S k → N0 ≤ k) : LA lo N0 w1 g gp gs gst gc gt gr KY M nx last :=
 ⟨h.link.fr k (fun e => by have := hS _ e; have := h.hi; omega), h.slr.fr k (fun e => by have := hS _ e; have := h.hi; omega) (fun e => by have := hS _ e; have := h.hi; omega) (fun e => by have := hS _ e; have := h.hi; omega), h.lo, h.hi⟩
theorem LA.mono {N1 : Nat} (h : LA lo N0 w g gp gs gst gc gt gr KY M nx last) (hn : N0 ≤ N1) : LA lo N1 w g gp gs gst gc gt gr KY M nx last := ⟨h.link, h.slr, h.lo, by have := h.hi; omega⟩
theorem LA.ne (h : LA lo N0 w g gp gs gst gc gt gr KY M nx last) : g ≠ gs ∧ g ≠ gst ∧ g ≠ gc := by
 obtain ⟨cc, hcc⟩ := CipK.heap h.slr.c
 exact ⟨blk_ne h.link h.slr.b (by decide), blk_ne h.link h.slr.s (by decide), blk_ne h.link hcc (by decide)⟩
end
/-- The links that hear lie from N0 on. -/
structure LBlo (N0 g gp gs gst gc gt gm : Nat) : Prop where
 all : N0 ≤ g ∧ N0 ≤ gp ∧ N0 ≤ gs ∧ N0 ≤ gst ∧ N0 ≤ gc ∧ N0 ≤ gt ∧ N0 ≤ gm
theorem LB.new {gf : Frs} {w w' : World} {secret : List Int} {g gp gs gst gc gt gm gr : Nat} (h : NewL w w' secret 1 g gp gs gst gc gt gm gr) : LB gf w.heap.size w' g gp gs gst gc gt gm gr (keyH secret) (keyM secret) 0 0 1 [] 0 :=
 ⟨h.link, h.slr, h.peer, ⟨h.tab, (fun x hx => by cases hx), List.nodup_nil, ⟨h.lo.2.2.2.2.2.1, h.lo.2.2.2.2.2.2⟩, (fun x hx => by cases hx), (fun x hx => by cases hx), Nat.zero_le _, (fun x hx => by cases hx)⟩⟩
theorem LA.new {lo : Nat} {w w' : World} {secret : List Int} {g gp gs gst gc gt gm gr : Nat} (h : NewL w w' secret 0 g gp gs gst gc gt gm gr) (hlo : lo ≤ w.heap.size) : LA lo w'.heap.size w' g gp gs gst gc gt gr (keyH secret) (keyM secret) 1 0 :=
 ⟨h.link, h.slr, ⟨by have := h.lo; omega, by have := h.lo; omega, by have := h.lo; omega, by have := h.lo; omega⟩, ⟨blk_lt h.link, h.slr.lt.1, h.slr.lt.2.1, h.slr.lt.2.2⟩⟩
/-- A sender's writes leave a hearer. -/
theorem LB.sent {gf : Frs} {N0 : Nat} {w w1 : World} {g gp gs gst gc gt gm gr clock : Nat} {KY M : List Int} {N f fl : Int} {T : List J.Op} (h : LB gf N0 w g gp gs gst gc gt gm gr KY M N f fl T clock) (hl : LBlo N0 g gp gs gst gc gt gm) {S : Nat → Prop} (k : Fr w w1 S) (hS : ∀ k, S k → k < N0) (h5 : ∀ k, S k → ¬ T5 w k) : LB gf N0 w1 g gp gs gst gc gt gm gr KY M N f fl T clock :=
 h.fr k (fun i e => by have := hS i e; have := hl.all; exact ⟨by omega, by omega, by omega, by omega, by omega, fun e2 => by have := e2.1; omega, h5 i e⟩)
theorem LA.not5 {lo N0 : Nat} {w : World} {g gp gs gst gc gt gr : Nat} {KY M : List Int} {nx last : Int} (h : LA lo N0 w g gp gs gst gc gt gr KY M nx last) : ∀ k, (k = g ∨ k = gs ∨ k = gc) → ¬ T5 w k := by
 rintro k (rfl | rfl | rfl)
 ·exact T5.not h.link (by decide)
 ·exact h.slr.not5.1
 ·exact h.slr.not5.2.2
/-- The hearer's own blocks are from N0 on. -/
theorem HFoot.lo {N0 g gp gs gst gc gt gm : Nat} (h : LBlo N0 g gp gs gst gc gt gm) {w : World} {k : Nat} (e : HFoot N0 gp gc w k) : N0 ≤ k := by
 have := h.all
 rcases e with rfl | rfl | e
 ·omega
 ·omega
 ·exact e.1
theorem LBlo.hlo {N0 g gp gs gst gc gt gm : Nat} (h : LBlo N0 g gp gs gst gc gt gm) {w : World} {k : Nat} (e : HFoot N0 gp gc w k) : N0 ≤ k := HFoot.lo h e
theorem lit_C {l : List Int} {w : World} {b : Nat} {fr : Nat × Nat} (h : w.heap[b]? = some (.cells (l.map (Value.int .u8)).toArray 5 fr)) (hm : l.length ≤ maxLen) : (Kd.int .u8).C w (some ⟨b, 0, none⟩) l.length l :=
 C_of_blk (tail := []) (t := 5) (fr := fr) (by rw [List.append_nil]; exact h) hm
/-- An element of a row of slices. -/
theorem slK_at {w : World} {A : Option Addr} {n : Nat} {ss : List Sl} (h : slK.C w A n ss) (i : Nat) (hi : i < n) : ∃ ad, A = some ad ∧ w.cell? (ad.add i) = some (slc (ss.getD i sl0)) := by
 obtain ⟨ad, c, e, _, hK, hc⟩ := Kd.C_get h sl0 (i : Int) (by omega) (by omega)
 obtain rfl : c = [slc (ss.getD i sl0)] := hK
 refine ⟨ad, e, ?_⟩
 have := hc 0 _ rfl
 rw [Int.toNat_natCast, Nat.add_zero] at this
 rw [show i * slK.sz = i from Nat.mul_one i] at this
 exact this
theorem newA_calls (secret KY M : List Int) (hKY : keyH secret = KY) (hM : keyM secret = M) (lo L : Nat) (hL : secret.length = L) (A : Option Addr) (c : Nat) (w : World) (hlo : lo ≤ w.heap.size) (hr : (Kd.int .u8).C w A secret.length secret) (hc : L ≤ c) (hl : 0 < L ∧ L ≤ 64) :
  Calls Tryz.prog 5 #[.slice A L c, .int .i64 0] w fun e w' => ∃ g gp gs gst gc gt gr, e = .returned (.tuple #[.pointer (some ⟨g, 0, none⟩), .int .i64 0]) ∧ LA lo w'.heap.size w' g gp gs gst gc gt gr KY M 1 0 ∧ Below w.heap.size w w' := by
 subst hL hKY hM
 refine (linkNew_calls secret A c 0 (.inl rfl) w hr hc hl).mono ?_
 rintro e w' ⟨g, gp, gs, gst, gc, gt, gm, gr, rfl, h⟩
 exact ⟨g, gp, gs, gst, gc, gt, gr, rfl, LA.new h hlo, h.bel⟩
theorem newB_calls (gf : Frs) (secret KY M : List Int) (hKY : keyH secret = KY) (hM : keyM secret = M) (L : Nat) (hL : secret.length = L) (A : Option Addr) (c : Nat) (w : World) (hr : (Kd.int .u8).C w A secret.length secret) (hc : L ≤ c) (hl : 0 < L ∧ L ≤ 64) :
  Calls Tryz.prog 5 #[.slice A L c, .int .i64 1] w fun e w' => ∃ g gp gs gst gc gt gm gr, e = .returned (.tuple #[.pointer (some ⟨g, 0, none⟩), .int .i64 0]) ∧ LB gf w.heap.size w' g gp gs gst gc gt gm gr KY M 0 0 1 [] 0 ∧ LBlo w.heap.size g gp gs gst gc gt gm ∧ Below w.heap.size w w' := by
 subst hL hKY hM
 refine (linkNew_calls secret A c 1 (.inr rfl) w hr hc hl).mono ?_
 rintro e w' ⟨g, gp, gs, gst, gc, gt, gm, gr, rfl, h⟩
 exact ⟨g, gp, gs, gst, gc, gt, gm, gr, rfl, LB.new h, ⟨h.lo⟩, h.bel⟩
/-- Send, by what it does to a sender and a hearer. -/
theorem sendA_calls (lo N0 ga gpa gsa gsta gca gta gra : Nat) (KY M : List Int) (hK : KY.length = 16 ∧ AllB KY) (hM : M.length = 16) (nx last now : Int) (hnx : 1 ≤ nx ∧ nx + 4 ≤ 64) (l : List Int) (L : Nat) (hL : l.length = L) (A : Option Addr) (c : Nat) (w : World) (h : LA lo N0 w ga gpa gsa gsta gca gta gra KY M nx last) (hlo : lo ≤ w.heap.size) (hr : (Kd.int .u8).C w A l.length l) (hc : L ≤ c) (hl : L ≤ 1500) :
  Calls Tryz.prog 6 #[.pointer (some ⟨ga, 0, none⟩), .int .i64 now, .slice A L c] w fun e w' => ∃ v last' ss, e = .returned (.tuple #[v, .int .i64 0]) ∧ LA lo N0 w' ga gpa gsa gsta gca gta gra KY M (nx + (cnt l : Int)) last' ∧ Fr w w' (fun k => k = ga ∨ k = gsa ∨ k = gca) ∧ slK.R 22 w' w.heap.size (fun _ => True) v ss ∧ Dgs w.heap.size w' ss (dgs KY M nx l (cnt l)) := by
 subst hL
 refine (send_calls ga gpa gsa gsta gca gta gra last now KY M hK hM nx hnx l A c w h.link h.slr h.ne hr hc hl).mono ?_
 rintro e w' ⟨v, last', ss, rfl, hp⟩
 exact ⟨v, last', ss, rfl, ⟨hp.link, hp.slr, h.lo, h.hi⟩, hp.fr, hp.row, hp.dg⟩
theorem keys_ex (secret : List Int) : ∃ KY M, keyH secret = KY ∧ keyM secret = M ∧ (KY.length = 16 ∧ AllB KY) ∧ M.length = 16 := ⟨_, _, rfl, rfl, keyH_ok _, (keyM_ok _).1⟩
theorem chunk_one {l : List Int} (h : cnt l = 1) : chunk l 0 = l := by
 have h1 := chunks_flat l
 unfold chunks at h1
 rw [h] at h1
 simpa using h1
/-- Send of a frame of one part. -/
theorem send1_calls (lo N0 ga gpa gsa gsta gca gta gra : Nat) (KY M : List Int) (hK : KY.length = 16 ∧ AllB KY) (hM : M.length = 16) (nx last now : Int) (hnx : 1 ≤ nx ∧ nx + 4 ≤ 64) (l : List Int) (h1 : cnt l = 1) (L : Nat) (hL : l.length = L) (A : Option Addr) (c : Nat) (w : World) (h : LA lo N0 w ga gpa gsa gsta gca gta gra KY M nx last) (hlo : lo ≤ w.heap.size) (hr : (Kd.int .u8).C w A l.length l) (hc : L ≤ c) (hl : L ≤ 1500) :
  Calls Tryz.prog 6 #[.pointer (some ⟨ga, 0, none⟩), .int .i64 now, .slice A L c] w fun e w' => ∃ ad c3 A5 n5 c5 last', e = .returned (.tuple #[.slice (some ad) 1 c3, .int .i64 0]) ∧ w'.cell? ad = some (.slice A5 n5 c5) ∧ Byt w.heap.size w' (.slice A5 n5 c5) (dgV KY M nx (wrV nx 0 1 l)) ∧ LA lo N0 w' ga gpa gsa gsta gca gta gra KY M (nx + 1) last' ∧ Fr w w' (fun k => k = ga ∨ k = gsa ∨ k = gca) := by
 refine (sendA_calls lo N0 ga gpa gsa gsta gca gta gra KY M hK hM nx last now hnx l L hL A c w h hlo hr hc hl).mono ?_
 rintro e w' ⟨v, last', ss, rfl, hla, hf, hR, hD⟩
 obtain ⟨A3, c3, rfl, hc3, hC3⟩ := Kd.R_reads hR
 have hdl : (dgs KY M nx l (cnt l)) = [dgV KY M nx (wrV nx 0 1 l)] := by
  rw [h1]
  unfold dgs
  simp [chunk_one h1, h1]
 have hss : ss.length = 1 := by rw [hD.len, hdl]; rfl
 obtain ⟨ad, e1, e2⟩ := slK_at hC3 0 (by omega)
 subst e1
 rw [show ad.add 0 = ad by cases ad; simp [Addr.add]] at e2
 have hb := hD.at_ 0 (by rw [hdl]; exact Nat.zero_lt_one)
 rw [hdl] at hb
 rw [h1] at hla
 exact ⟨ad, c3, _, _, _, last', by rw [hss], e2, hb, hla, hf⟩
/-- Bytes behind a value, as a slice. -/
theorem byt_open {lo : Nat} {w : World} {A : Option Addr} {n c : Nat} {l : List Int} (h : Byt lo w (.slice A n c) l) : n = l.length ∧ n ≤ c ∧ (Kd.int .u8).C w A l.length l := by
 obtain ⟨A', c', e, h1, h2, _⟩ := h.out
 injection e with e1 e2 e3
 subst e1 e2 e3
 exact ⟨rfl, h1, h2⟩
/-- Hear of a frame of one part that is newer than all. -/
theorem hear1_calls (gf : Frs) (N0 g gp gs gst gc gt gm gr : Nat) (KY M : List Int) (hK : KY.length = 16 ∧ AllB KY) (hM : M.length = 16) (N f fl : Int) (T : List J.Op) (clock : Nat) (nn a : Int) (l : List Int) (L : Nat) (hL : l.length = L) (hgf : gf nn = chunks l) (h1 : cnt l = 1) (hl : L ≤ 1500) (hlb : AllB l) (hn : 1 ≤ nn ∧ nn < 64) (hN : N < nn) (hfl : fl ≤ nn) (hT : ∀ y ∈ T, y.id < nn)
  (A : Option Addr) (n c : Nat) (w : World) (h : LB gf N0 w g gp gs gst gc gt gm gr KY M N f fl T clock) (hw : N0 ≤ w.heap.size) (hy : Byt 0 w (.slice A n c) (dgV KY M nn (wrV nn 0 1 l))) :
  Calls Tryz.prog 7 #[.pointer (some ⟨g, 0, none⟩), .int .u32 a, .slice A n c] w fun e w' => ∃ A6 c6 fl' T' clock', e = .returned (.tuple #[.slice A6 L c6, .bool true, .int .i64 0]) ∧ Byt w.heap.size w' (.slice A6 L c6) l ∧ LB gf N0 w' g gp gs gst gc gt gm gr KY M nn a fl' T' clock' ∧ Fr w w' (HFoot N0 gp gc w) := by
 subst hL
 have hlen : (gf nn).length = 1 := by rw [hgf, chunks_len, h1]
 have hWw : Whole nn (gf nn).length (gf nn) := by
  have := chunks_whole hl hn
  rw [hlen, hgf, ← h1]
  exact this
 have hget : (gf nn).getD 0 [] = l := by rw [hgf, chunks_get l 0 (by omega), chunk_one h1]
 obtain ⟨hn1, hc1, hC1⟩ := byt_open hy
 refine (hear_ok_calls gf N0 g gp gs gst gc gt gm gr KY M hK hM N f fl T clock nn a nn 0 1 l (by omega) hWw (by omega) hlen hget hlb A n c hn1 hc1 w h hw hC1).mono ?_
 rintro e w' ⟨v, told, er, N', f', fl', T', clock', rfl, hp⟩
 obtain ⟨rfl, rfl, rfl⟩ := hp.sure hN hlen hfl hT
 obtain ⟨rfl, _, _, hy'⟩ := hp.yes rfl
 rw [hgf, chunks_flat] at hy'
 have hy2 := hy'
 obtain ⟨A6, c6, rfl, _, _, _⟩ := hy'.out
 exact ⟨A6, c6, fl', T', clock', rfl, hy2, hp.lb, hp.fr⟩
def gfX : Frs := fun _ => chunks [120]
theorem strX : strOfNums [120] = ⟨#[120]⟩ := by decide
theorem chunkX : cnt [120] = 1 ∧ chunk [120] 0 = [120] := by decide
theorem conv22 (W : World) (C : Array Value) (n c : Nat) : (convert 22 22 (.slice (some ⟨W.heap.size, 0, none⟩) n c)).run Tryz.prog (W.alloc (.cells C 5)) = .ok (.slice (some ⟨W.heap.size, 0, none⟩) n c) (W.alloc (.cells C 5 (C.size, C.size + 1))) :=
 Lib.run_convert_bytes_const (P := Tryz.prog) W 22 5 C n c Tryz.underlying22 Tryz.underlying5
set_option maxHeartbeats 8000000 in
set_option maxRecDepth 100000 in
theorem alive_calls (w : World) : Calls Tryz.prog 4 #[] w fun e w' => e = .returned (.bool true) ∧ Below w.heap.size w w' := by
 have HB := Aside0.mk (Below.refl w.heap.size w)
 have E1 := fun W C n c => conv22 W C n c
 obtain ⟨sec, hsec⟩ : ∃ s : List Int, s = [115] := ⟨_, rfl⟩
 have HSEC := Aside0.mk hsec
 clear hsec
 obtain ⟨KY, M, hKY, hM, hK1, hM1⟩ := keys_ex sec
 have HK : Aside0 ((KY.length = 16 ∧ AllB KY) ∧ M.length = 16) := ⟨hK1, hM1⟩
 clear hK1 hM1
 have HKY := Aside0.mk (And.intro hKY hM)
 clear hKY hM
 go_enter Tryz.func4, Tryz.ntmps4
 go_wp2_with (first
  | (go_at_call_of 5 (Value.int IntKind.i64 0); refine (newA_calls sec KY M HKY.out.1 HKY.out.2 w.heap.size 1 (by rw [HSEC.out]; rfl) _ 1 _ (below_alloc (Below.refl _ _) _).size (by rw [HSEC.out]; exact lit_C (l := [115]) (blk_new w _) (by decide)) (Nat.le_refl _) (by decide)).mono ?_; rintro e w1 ⟨ga, gpa, gsa, gsta, gca, gta, gra, rfl, h1, h2⟩; have HX1 : Aside0 (LA w.heap.size w1.heap.size w1 ga gpa gsa gsta gca gta gra KY M 1 0 ∧ Below w.heap.size w w1) := ⟨h1, below_step (below_alloc (Below.refl _ _) _) h2⟩; clear h1 h2)
  | (go_at_call_of 5 (Value.int IntKind.i64 1); refine (newB_calls gfX sec KY M HKY.out.1 HKY.out.2 1 (by rw [HSEC.out]; rfl) _ 1 _ (by rw [HSEC.out]; exact lit_C (l := [115]) (blk_new w1 _) (by decide)) (Nat.le_refl _) (by decide)).mono ?_; rintro e w2 ⟨gb, gpb, gsb, gstb, gcb, gtb, gmb, grb, rfl, h1, h2, h3⟩; have hle : w1.heap.size ≤ (w1.alloc (.cells #[.int .u8 115] 5 (1, 2))).heap.size := (below_alloc (Below.refl _ _) _).size; have hsz := h3.size; have HX2 : Aside0 (LA w.heap.size (w1.alloc (.cells #[.int .u8 115] 5 (1, 2))).heap.size w2 ga gpa gsa gsta gca gta gra KY M 1 0 ∧ LB gfX (w1.alloc (.cells #[.int .u8 115] 5 (1, 2))).heap.size w2 gb gpb gsb gstb gcb gtb gmb grb KY M 0 0 1 [] 0 ∧ LBlo (w1.alloc (.cells #[.int .u8 115] 5 (1, 2))).heap.size gb gpb gsb gstb gcb gtb gmb ∧ Below w.heap.size w w2 ∧ (w1.alloc (.cells #[.int .u8 115] 5 (1, 2))).heap.size ≤ w2.heap.size ∧ w.heap.size ≤ (w1.alloc (.cells #[.int .u8 115] 5 (1, 2))).heap.size) := ⟨((HX1.out.1.below (below_alloc (Below.refl _ _) _)).below h3).mono hle, h1, h2, below_step (below_step HX1.out.2 (below_alloc (Below.refl _ _) _)) h3, hsz, Nat.le_trans HX1.out.2.size hle⟩; generalize (w1.alloc (.cells #[.int .u8 115] 5 (1, 2))).heap.size = N0 at HX2; clear h1 h2 h3 hle hsz)
  | (go_at_call 6; refine (send1_calls w.heap.size N0 ga gpa gsa gsta gca gta gra KY M HK.out.1 HK.out.2 1 0 1 (by decide) [120] chunkX.1 1 rfl _ 1 _ (HX2.out.1.below (below_alloc (Below.refl _ _) _)) (Nat.le_trans HX2.out.2.2.2.1.size (below_alloc (Below.refl _ _) _).size) (lit_C (l := [120]) (blk_new w2 _) (by decide)) (Nat.le_refl _) (by decide)).mono ?_; rintro e w3 ⟨ad, c3, A5, n5, c5, last3, rfl, hcell, hy, hla, hf⟩; have HX3 : Aside0 (LB gfX N0 w3 gb gpb gsb gstb gcb gtb gmb grb KY M 0 0 1 [] 0 ∧ Below w.heap.size w w3 ∧ Byt 0 w3 (.slice A5 n5 c5) (dgV KY M 1 (wrV 1 0 1 [120])) ∧ N0 ≤ w3.heap.size) := ⟨(HX2.out.2.1.below (below_alloc (Below.refl _ _) _)).sent HX2.out.2.2.1 hf (fun k e => by have := HX2.out.1.hi; omega) (HX2.out.1.below (below_alloc (Below.refl _ _) _)).not5, below_trans (below_step HX2.out.2.2.2.1 (below_alloc (Below.refl _ _) _)) (hf.belowB (Nat.le_trans HX2.out.2.2.2.1.size (below_alloc (Below.refl _ _) _).size) (fun k e => by have := HX2.out.1.lo; omega)), hy.lower (Nat.zero_le _), Nat.le_trans HX2.out.2.2.2.2.1 (Nat.le_trans (below_alloc (Below.refl _ _) _).size hf.size)⟩; clear hy hla hf)
  | (go_at_call 7; refine (hear1_calls gfX N0 gb gpb gsb gstb gcb gtb gmb grb KY M HK.out.1 HK.out.2 0 0 1 [] 0 1 3 [120] 1 rfl rfl chunkX.1 (by decide) (by unfold AllB; decide) (by decide) (by decide) (by decide) (fun y hy => by cases hy) A5 n5 c5 _ HX3.out.1 HX3.out.2.2.2 HX3.out.2.2.1).mono ?_; rintro e w4 ⟨A6, c6, fl4, T4, clock4, rfl, hC0, hlb, hf⟩; have hC := (byt_open hC0).2.2; have hcv : (convert 22 9 (.slice A6 1 c6)).run Tryz.prog w4 = .ok (.string ⟨#[120]⟩) w4 := (by rw [← strX]; exact Kd.C_string Tryz.underlying22 Tryz.underlying5 Tryz.underlying9 hC); have HX4 : Aside0 (Below w.heap.size w w4) := ⟨below_trans HX3.out.2.1 (hf.belowB HX3.out.2.1.size (fun k e => by have := HX2.out.2.2.1.hlo e; have := HX2.out.2.2.2.2.2; omega))⟩; clear hC0 hC hlb hf))
 go_ret
 exact ⟨rfl, HX4.out⟩
end Go.Proofs.YteadamkkbgnpeaaGreat.K
end OfK7
section OfK8
set_option linter.unusedVariables false
set_option linter.unusedSimpArgs false
namespace Go.Proofs.YteadamkkbgnpeaaGreat.K
open Go.RowKit Go.ChangeMaps YteadamkkbgnpeaaGreatW.PrintLast PeerFacts J F L M A B S QTC YteadamkkbgnpeaaGreatW.PrintWords YteadamkkbgnpeaaGreatW.PrintMore
/-- How many datagrams the first i frames have. -/
def base (F : List (List Int)) : Nat → Nat
 | 0 => 0
 | i + 1 => base F i + cnt (F.getD i [])
theorem cnt_pos (l : List Int) : 1 ≤ cnt l := by unfold cnt; omega
theorem base_lt (F : List (List Int)) (i : Nat) : base F i < base F (i + 1) := by
 have := cnt_pos (F.getD i [])
 show base F i < base F i + _
 omega
theorem base_mono (F : List (List Int)) : ∀ {i j : Nat}, i ≤ j → base F i ≤ base F j
 | i, 0, h => by rw [Nat.le_zero.mp h]; exact Nat.le_refl _
 | i, j + 1, h => by
  rcases Nat.lt_or_ge i (j + 1) with h1 | h1
  ·have := base_mono F (show i ≤ j by omega)
   have := base_lt F j
   omega
  ·rw [show i = j + 1 by omega]; exact Nat.le_refl _
theorem base_strict (F : List (List Int)) {i j : Nat} (h : i < j) : base F i < base F j := Nat.lt_of_lt_of_le (base_lt F i) (base_mono F h)
theorem base_inj (F : List (List Int)) {i j : Nat} (h : base F i = base F j) : i = j := by
 rcases Nat.lt_trichotomy i j with h1 | h1 | h1
 ·have := base_strict F h1; omega
 ·exact h1
 ·have := base_strict F h1; omega
theorem base_of_lt (F : List (List Int)) {i j : Nat} (h : base F i < base F j) : i < j := by
 rcases Nat.lt_or_ge i j with h1 | h1
 ·exact h1
 ·have := base_mono F h1; omega
/-- The first i frames are not too long. -/
def Short (F : List (List Int)) (i : Nat) : Prop := ∀ j, j < i → (F.getD j []).length ≤ 1500
theorem base_le {F : List (List Int)} : ∀ {i : Nat}, Short F i → base F i ≤ 4 * i
 | 0, _ => Nat.le_refl _
 | i + 1, h => by
  have h1 := base_le (i := i) (fun j hj => h j (by omega))
  have h2 := (cnt_le (h i (Nat.lt_succ_self i))).2
  show base F i + _ ≤ _
  omega
theorem getD_app_left {α : Type} (F G : List α) (z : α) (j : Nat) (h : j < F.length) : (F ++ G).getD j z = F.getD j z := by
 rw [List.getD_eq_getElem?_getD, List.getD_eq_getElem?_getD, List.getElem?_append_left h]
theorem base_app (F G : List (List Int)) : ∀ {i : Nat}, i ≤ F.length → base (F ++ G) i = base F i
 | 0, _ => rfl
 | i + 1, h => by
  show base (F ++ G) i + cnt ((F ++ G).getD i []) = base F i + cnt (F.getD i [])
  rw [base_app F G (by omega), getD_app_left F G [] i (by omega)]
/-- All datagrams of the first i frames. -/
def wayD (KY M : List Int) (F : List (List Int)) : Nat → List (List Int)
 | 0 => []
 | i + 1 => wayD KY M F i ++ dgs KY M (1 + (base F i : Int)) (F.getD i []) (cnt (F.getD i []))
theorem dgs_len (KY M : List Int) (nx : Int) (l : List Int) (i : Nat) : (dgs KY M nx l i).length = i := by unfold dgs; simp
theorem wayD_len (KY M : List Int) (F : List (List Int)) : ∀ i, (wayD KY M F i).length = base F i
 | 0 => rfl
 | i + 1 => by
  show (wayD KY M F i ++ _).length = base F i + _
  rw [List.length_append, wayD_len KY M F i, dgs_len]
/-- Where each frame's datagrams begin. -/
def firsts (F : List (List Int)) (i : Nat) : List Int := (List.range i).map (fun j => (base F j : Int))
theorem firsts_len (F : List (List Int)) (i : Nat) : (firsts F i).length = i := by unfold firsts; simp
theorem firsts_succ (F : List (List Int)) (i : Nat) : firsts F (i + 1) = firsts F i ++ [(base F i : Int)] := by
 unfold firsts
 rw [List.range_succ, List.map_append]
 rfl
theorem firsts_at (F : List (List Int)) (i j : Nat) (h : j < i) : YteadamkkbgnpeaaGreatW.PrintWords.rd (firsts F i) (j : Int) = (base F j : Int) := by
 unfold YteadamkkbgnpeaaGreatW.PrintWords.rd firsts
 simp [List.getD_eq_getElem?_getD, h]
theorem dgs_get (KY M : List Int) (nx : Int) (l : List Int) (i k : Nat) (h : k < i) : (dgs KY M nx l i).getD k [] = dgV KY M (nx + (k : Int)) (wrV nx k (cnt l) (chunk l k)) := by
 unfold dgs
 simp [List.getD_eq_getElem?_getD, h]
/-- The k-th datagram is a frame's. -/
theorem way_at (KY M : List Int) (F : List (List Int)) : ∀ (n k : Nat), k < base F n → ∃ j, j < n ∧ base F j ≤ k ∧ k < base F (j + 1) ∧ (wayD KY M F n).getD k [] = dgV KY M (1 + (k : Int)) (wrV (1 + (base F j : Int)) (k - base F j) (cnt (F.getD j [])) (chunk (F.getD j []) (k - base F j)))
 | 0, k, h => absurd h (Nat.not_lt_zero _)
 | n + 1, k, h => by
  rcases Nat.lt_or_ge k (base F n) with h1 | h1
  ·obtain ⟨j, h2, h3, h4, h5⟩ := way_at KY M F n k h1
   refine ⟨j, by omega, h3, h4, ?_⟩
   rw [← h5]
   exact getD_app_left _ _ _ _ (by rw [wayD_len]; exact h1)
  ·refine ⟨n, Nat.lt_succ_self n, h1, h, ?_⟩
   show (wayD KY M F n ++ _).getD k [] = _
   rw [List.getD_eq_getElem?_getD, List.getElem?_append_right (by rw [wayD_len]; exact h1), wayD_len, ← List.getD_eq_getElem?_getD]
   have hk : k - base F n < cnt (F.getD n []) := by
    have : base F (n + 1) = base F n + cnt (F.getD n []) := rfl
    omega
   rw [dgs_get _ _ _ _ _ _ hk, show (1 : Int) + (base F n : Int) + ((k - base F n : Nat) : Int) = 1 + (k : Int) by omega]
/-- The frames by their numbers. -/
def G (F : List (List Int)) : Frs := fun id => match (List.range F.length).find? (fun j => decide (1 + (base F j : Int) = id)) with
 | some j => chunks (F.getD j [])
 | none => []
theorem G_at (F : List (List Int)) (j : Nat) (h : j < F.length) : G F (1 + (base F j : Int)) = chunks (F.getD j []) := by
 unfold G
 have hf : (List.range F.length).find? (fun i => decide (1 + (base F i : Int) = 1 + (base F j : Int))) = some j := by
  cases hc : (List.range F.length).find? (fun i => decide (1 + (base F i : Int) = 1 + (base F j : Int))) with
  | none =>
   have := List.find?_eq_none.mp hc j (List.mem_range.mpr h)
   simp at this
  | some i =>
   have h1 := List.find?_some hc
   have h2 : base F i = base F j := by have := of_decide_eq_true h1; omega
   rw [base_inj F h2]
 rw [hf]
end Go.Proofs.YteadamkkbgnpeaaGreat.K
end OfK8
section OfK9
set_option linter.unusedVariables false
set_option linter.unusedSimpArgs false
namespace Go.Proofs.YteadamkkbgnpeaaGreat.K
open Go.RowKit Go.ChangeMaps YteadamkkbgnpeaaGreatW.PrintLast PeerFacts J F L M A B S QTC YteadamkkbgnpeaaGreatW.PrintWords YteadamkkbgnpeaaGreatW.PrintMore
/-- Frames that came in. -/
structure FRows (w : World) (A : Option Addr) (F : List (List Int)) : Prop where
 at_ : ∀ j, j < F.length → ∃ ad A1 c1, A = some ad ∧ w.cell? (ad.add j) = some (.slice A1 (F.getD j []).length c1) ∧ (F.getD j []).length ≤ c1 ∧ (Kd.int .u8).C w A1 (F.getD j []).length (F.getD j [])
 b : ∀ j, j < F.length → AllB (F.getD j [])
/-- The law's state: two links, the datagrams, where the frames begin. -/
structure GS (W wr : World) (N0 ga gpa gsa gsta gca gta gra gb gpb gsb gstb gcb gtb gmb grb : Nat) (gf : Frs) (KY M : List Int) (nx last N f fl : Int) (T : List J.Op) (clock : Nat) (way : List (List Int)) (vw : Value) (fs : List Int) (vf : Value) : Prop where
 la : LA W.heap.size N0 wr ga gpa gsa gsta gca gta gra KY M nx last
 lb : LB gf N0 wr gb gpb gsb gstb gcb gtb gmb grb KY M N f fl T clock
 lo : LBlo N0 gb gpb gsb gstb gcb gtb gmb
 bel : Below W.heap.size W wr
 n0 : W.heap.size ≤ N0 ∧ N0 ≤ wr.heap.size
 way : ∃ ss, slK.R 22 wr W.heap.size (fun _ => True) vw ss ∧ Dgs W.heap.size wr ss way
 firsts : (Kd.int .i64).R 3 wr W.heap.size (fun _ => True) vf fs
section
variable {W wr w1 : World} {N0 ga gpa gsa gsta gca gta gra gb gpb gsb gstb gcb gtb gmb grb : Nat} {gf : Frs} {KY M : List Int} {nx last N f fl : Int} {T : List J.Op} {clock : Nat} {way : List (List Int)} {vw : Value} {fs : List Int} {vf : Value}
theorem GS.below (h : GS W wr N0 ga gpa gsa gsta gca gta gra gb gpb gsb gstb gcb gtb gmb grb gf KY M nx last N f fl T clock way vw fs vf) (k : Below wr.heap.size wr w1) : GS W w1 N0 ga gpa gsa gsta gca gta gra gb gpb gsb gstb gcb gtb gmb grb gf KY M nx last N f fl T clock way vw fs vf :=
 ⟨h.la.below k, h.lb.below k, h.lo, below_step h.bel k |> fun h => h, ⟨h.n0.1, Nat.le_trans h.n0.2 k.size⟩, let ⟨ss, h1, h2⟩ := h.way; ⟨ss, Kd.R_below h1 k, h2.below k⟩, Kd.R_below h.firsts k⟩
/-- Blocks that are no rows of slices, bytes, numbers. -/
def NoRow (w : World) (S : Nat → Prop) : Prop := ∀ k, S k → ∀ cs t fr, w.heap[k]? = some (.cells cs t fr) → t ≠ 22 ∧ t ≠ 5 ∧ t ≠ 3
theorem R_norow {α : Type} {d : Kd α} {e base : Nat} {ok : Nat → Prop} {w w1 : World} {v : Value} {xs : List α} {S : Nat → Prop} (h : d.R e w base ok v xs) (f : Fr w w1 S) (hS : NoRow w S) (he : ∀ q, q ∈ e :: d.E → q = 22 ∨ q = 5 ∨ q = 3) : d.R e w1 base ok v xs :=
 Kd.R_mono (Kd.R_move (Kd.R_bound h) (fun k hk => f.block k hk.2.2.1 (fun hs => by
  obtain ⟨_, _, _, q, hq, cells, hc⟩ := hk
  have h1 := hS k hs _ _ _ hc
  rcases he q hq with e | e | e
  ·exact h1.1 e
  ·exact h1.2.1 e
  ·exact h1.2.2 e))) (fun _ hk => hk.1)
theorem NoRow.not5 {w : World} {S : Nat → Prop} (h : NoRow w S) : ∀ k, S k → ¬ T5 w k := fun k hk ⟨cs, fr, e⟩ => (h k hk _ _ _ e).2.1 rfl
theorem LA.norow {lo : Nat} (h : LA lo N0 wr ga gpa gsa gsta gca gta gra KY M nx last) : NoRow wr (fun k => k = ga ∨ k = gsa ∨ k = gca) := by
 obtain ⟨cc, hcc⟩ := CipK.heap h.slr.c
 have key : ∀ {k t t' : Nat} {cs cs' : Array Value} {fr fr' : Nat × Nat}, wr.heap[k]? = some (.cells cs t fr) → wr.heap[k]? = some (.cells cs' t' fr') → t' = t := fun h1 h2 => by
  rw [h1] at h2; injection h2 with h2; injection h2 with _ h2; exact h2.symm
 rintro k (rfl | rfl | rfl) cs t fr e
 ·rw [key h.link e]; decide
 ·rw [key h.slr.b e]; decide
 ·rw [key hcc e]; decide
theorem LB.norow (h : LB gf N0 wr gb gpb gsb gstb gcb gtb gmb grb KY M N f fl T clock) : NoRow wr (HFoot N0 gpb gcb wr) := by
 obtain ⟨cc, hcc⟩ := CipK.heap h.slr.c
 obtain ⟨b, mv, hp, hJ⟩ := h.peer
 have key : ∀ {k t t' : Nat} {cs cs' : Array Value} {fr fr' : Nat × Nat}, wr.heap[k]? = some (.cells cs t fr) → wr.heap[k]? = some (.cells cs' t' fr') → t' = t := fun h1 h2 => by
  rw [h1] at h2; injection h2 with h2; injection h2 with _ h2; exact h2.symm
 rintro k (rfl | rfl | hk) cs t fr e
 ·rw [key hp e]; decide
 ·rw [key hcc e]; decide
 ·rcases hk.2.not e with h | h <;> (rw [h]; decide)
/-- A frame was sent. -/
theorem GS.sent (h : GS W wr N0 ga gpa gsa gsta gca gta gra gb gpb gsb gstb gcb gtb gmb grb gf KY M nx last N f fl T clock way vw fs vf) {nx' last' : Int} (hla : LA W.heap.size N0 w1 ga gpa gsa gsta gca gta gra KY M nx' last') (k : Fr wr w1 (fun k => k = ga ∨ k = gsa ∨ k = gca)) : GS W w1 N0 ga gpa gsa gsta gca gta gra gb gpb gsb gstb gcb gtb gmb grb gf KY M nx' last' N f fl T clock way vw fs vf :=
 ⟨hla, h.lb.sent h.lo k (fun i e => by have := h.la.hi; omega) h.la.not5, h.lo, below_trans h.bel (k.belowB h.bel.size (fun i e => by have := h.la.lo; omega)), ⟨h.n0.1, Nat.le_trans h.n0.2 k.size⟩, let ⟨ss, h1, h2⟩ := h.way; ⟨ss, R_norow h1 k h.la.norow (by decide), h2.fr k h.la.not5⟩, R_norow h.firsts k h.la.norow (by decide)⟩
/-- A datagram was heard. -/
theorem GS.heard (h : GS W wr N0 ga gpa gsa gsta gca gta gra gb gpb gsb gstb gcb gtb gmb grb gf KY M nx last N f fl T clock way vw fs vf) {N' f' fl' : Int} {T' : List J.Op} {clock' : Nat} (hlb : LB gf N0 w1 gb gpb gsb gstb gcb gtb gmb grb KY M N' f' fl' T' clock') (k : Fr wr w1 (HFoot N0 gpb gcb wr)) : GS W w1 N0 ga gpa gsa gsta gca gta gra gb gpb gsb gstb gcb gtb gmb grb gf KY M nx last N' f' fl' T' clock' way vw fs vf :=
 ⟨h.la.fr k (fun i e => h.lo.hlo e), hlb, h.lo, below_trans h.bel (k.belowB h.bel.size (fun i e => Nat.le_trans h.n0.1 (h.lo.hlo e))), ⟨h.n0.1, Nat.le_trans h.n0.2 k.size⟩, let ⟨ss, h1, h2⟩ := h.way; ⟨ss, R_norow h1 k h.lb.norow (by decide), h2.fr k h.lb.not5⟩, R_norow h.firsts k h.lb.norow (by decide)⟩
/-- What is written are rows alone. -/
def Rows3 (w : World) (S : Nat → Prop) : Prop := ∀ k, S k → ∃ cs t fr, w.heap[k]? = some (.cells cs t fr) ∧ (t = 22 ∨ t = 3)
theorem Rows3.ne {w : World} {S : Nat → Prop} (h : Rows3 w S) {g t : Nat} {cs : Array Value} {fr : Nat × Nat} (hg : w.heap[g]? = some (.cells cs t fr)) (ht : t ≠ 22 ∧ t ≠ 3) : ¬ S g := fun e => by
 obtain ⟨cs', t', fr', h1, h2⟩ := h g e
 rw [hg] at h1
 injection h1 with h1
 injection h1 with _ h1
 rw [← h1] at h2
 exact h2.elim ht.1 ht.2
theorem Rows3.not5 {w : World} {S : Nat → Prop} (h : Rows3 w S) : ∀ k, S k → ¬ T5 w k := fun k hk ⟨cs, fr, e⟩ => h.ne e (by decide) hk
theorem Rows3.notFoot {w : World} {S : Nat → Prop} (h : Rows3 w S) : ∀ k, S k → ¬ Foot N0 w k := fun k hk e => by
 obtain ⟨cs', t', fr', h1, h2⟩ := h k hk
 exact not_foot h1 (by rcases h2 with rfl | rfl <;> decide) e
theorem LA.rows {lo : Nat} (h : LA lo N0 wr ga gpa gsa gsta gca gta gra KY M nx last) {S : Nat → Prop} (f : Fr wr w1 S) (hS : Rows3 wr S) : LA lo N0 w1 ga gpa gsa gsta gca gta gra KY M nx last := by
 obtain ⟨cc, hcc⟩ := CipK.heap h.slr.c
 exact ⟨h.link.fr f (hS.ne h.link (by decide)), h.slr.fr f (hS.ne h.slr.b (by decide)) (hS.ne h.slr.s (by decide)) (hS.ne hcc (by decide)), h.lo, h.hi⟩
theorem LB.rows (h : LB gf N0 wr gb gpb gsb gstb gcb gtb gmb grb KY M N f fl T clock) {S : Nat → Prop} (k : Fr wr w1 S) (hS : Rows3 wr S) : LB gf N0 w1 gb gpb gsb gstb gcb gtb gmb grb KY M N f fl T clock := by
 obtain ⟨cc, hcc⟩ := CipK.heap h.slr.c
 obtain ⟨b, mv, hp, hJ⟩ := h.peer
 exact ⟨h.link.fr k (hS.ne h.link (by decide)), h.slr.fr k (hS.ne h.slr.b (by decide)) (hS.ne h.slr.s (by decide)) (hS.ne hcc (by decide)), PeerAt.fr ⟨b, mv, hp, hJ⟩ k (hS.ne hp (by decide)), h.tab.fr k (fun i e => ⟨hS.notFoot i e, hS.not5 i e⟩)⟩
theorem rows3_own {α : Type} {d : Kd α} {e base : Nat} {ok : Nat → Prop} {w : World} {v : Value} {xs : List α} (h : d.R e w base ok v xs) (he : e = 22 ∨ e = 3) : Rows3 w (fun k => some k = v.ownBlock) := fun k hk => by
 obtain ⟨cells, hh⟩ := own_typed (Kd.R_own h).choose_spec k hk.symm
 exact ⟨cells, e, _, hh, he⟩
/-- Datagrams are appended. -/
theorem GS.app_way (h : GS W wr N0 ga gpa gsa gsta gca gta gra gb gpb gsb gstb gcb gtb gmb grb gf KY M nx last N f fl T clock way vw fs vf) {ss tt : List Sl} {E : List (List Int)} {vw1 : Value} (hR : slK.R 22 wr W.heap.size (fun _ => True) vw ss) (hD : Dgs W.heap.size wr ss way) (hE : Dgs W.heap.size wr tt E) (hR1 : slK.R 22 w1 W.heap.size (fun _ => True) vw1 (ss ++ tt)) (hg : wr.grownBy w1 vw.ownBlock) : GS W w1 N0 ga gpa gsa gsta gca gta gra gb gpb gsb gstb gcb gtb gmb grb gf KY M nx last N f fl T clock (way ++ E) vw1 fs vf := by
 have f := fr_of_grown hg
 have h3 := rows3_own hR (.inl rfl)
 exact ⟨h.la.rows f h3, h.lb.rows f h3, h.lo, below_trans h.bel (f.belowB h.bel.size (fun k e => Kd.R_base hR k e.symm)), ⟨h.n0.1, Nat.le_trans h.n0.2 f.size⟩, ⟨_, hR1, (hD.fr f h3.not5).app (hE.fr f h3.not5)⟩, Kd.R_over h.firsts hR (by decide) hg⟩
/-- A beginning is appended. -/
theorem GS.app_first (h : GS W wr N0 ga gpa gsa gsta gca gta gra gb gpb gsb gstb gcb gtb gmb grb gf KY M nx last N f fl T clock way vw fs vf) {x : Int} {vf1 : Value} (hR1 : (Kd.int .i64).R 3 w1 W.heap.size (fun _ => True) vf1 (fs ++ [x])) (hg : wr.grownBy w1 vf.ownBlock) : GS W w1 N0 ga gpa gsa gsta gca gta gra gb gpb gsb gstb gcb gtb gmb grb gf KY M nx last N f fl T clock way vw (fs ++ [x]) vf1 := by
 have f := fr_of_grown hg
 have h3 := rows3_own h.firsts (.inr rfl)
 obtain ⟨ss, h1, h2⟩ := h.way
 exact ⟨h.la.rows f h3, h.lb.rows f h3, h.lo, below_trans h.bel (f.belowB h.bel.size (fun k e => Kd.R_base h.firsts k e.symm)), ⟨h.n0.1, Nat.le_trans h.n0.2 f.size⟩, ⟨ss, Kd.R_over h1 h.firsts (by decide) hg, h2.fr f h3.not5⟩, hR1⟩
end
/-- What is known of a hearer's numbers: nxt frames are told. -/
structure PI (F : List (List Int)) (n nxt : Nat) (N fl : Int) (T : List J.Op) : Prop where
 nN : 0 ≤ N ∧ N ≤ (base F n : Int)
 ids : ∀ x ∈ T, ∃ j, j < n ∧ x.id = 1 + (base F j : Int)
 fl1 : 1 ≤ fl
 fl2 : fl ≤ 1 + (base F n : Int)
 told : ∀ j, j < n → fl ≤ 1 + (base F j : Int) → nxt ≤ j
 le : nxt ≤ n
theorem PI.start (F : List (List Int)) (n : Nat) : PI F n 0 0 1 [] := ⟨by omega, (fun x hx => by cases hx), Int.le_refl _, by omega, fun _ _ _ => Nat.zero_le _, Nat.zero_le _⟩
section
variable {F : List (List Int)} {n nxt j k : Nat} {N fl N' fl' : Int} {T T' : List J.Op}
theorem PI.step (h : PI F n nxt N fl T) (hj : j < n) (hk : base F j ≤ k ∧ k < base F (j + 1)) (ids : ∀ x ∈ T', x.id = 1 + (base F j : Int) ∨ ∃ y ∈ T, y.id = x.id) (fl1 : fl ≤ fl') (fl2 : fl' = fl ∨ fl' = 1 + (base F j : Int) + 1 ∨ ∃ y ∈ T, fl' = y.id + 1) (pn : N' = N ∨ N' = 1 + (k : Int)) : PI F n nxt N' fl' T' := by
 have hkn := base_mono F (show j + 1 ≤ n from hj)
 have h1 := h.nN
 have h2 := h.fl1
 have h3 := h.fl2
 refine ⟨by omega, fun x hx => ?_, by omega, ?_, fun i hi e => h.told i hi (by omega), h.le⟩
 ·rcases ids x hx with e | ⟨y, hy, e⟩
  ·exact ⟨j, hj, e⟩
  ·obtain ⟨i, hi, e2⟩ := h.ids y hy
   exact ⟨i, hi, e ▸ e2⟩
 ·rcases fl2 with e | e | ⟨y, hy, e⟩
  ·omega
  ·omega
  ·obtain ⟨i, hi, e2⟩ := h.ids y hy
   have := base_mono F (show i + 1 ≤ n from hi)
   have := base_lt F i
   omega
theorem PI.tell (h : PI F n nxt N fl T) (hj : j < n) (hle : fl ≤ 1 + (base F j : Int)) (h' : PI F n nxt N' fl' T') (hf : fl' = 1 + (base F j : Int) + 1) : nxt ≤ j ∧ PI F n (j + 1) N' fl' T' := by
 refine ⟨h.told j hj hle, h'.nN, h'.ids, h'.fl1, h'.fl2, fun i hi e => ?_, hj⟩
 have h1 : base F j < base F i := by omega
 exact base_of_lt F h1
end
end Go.Proofs.YteadamkkbgnpeaaGreat.K
end OfK9
section OfK10
set_option linter.unusedVariables false
set_option linter.unusedSimpArgs false
namespace Go.Proofs.YteadamkkbgnpeaaGreat.K
open Go.RowKit Go.ChangeMaps YteadamkkbgnpeaaGreatW.PrintLast PeerFacts J F L M A B S QTC YteadamkkbgnpeaaGreatW.PrintWords YteadamkkbgnpeaaGreatW.PrintMore
def lastM : List Int := [116, 104, 101, 32, 108, 97, 115, 116, 32, 111, 110, 101]
theorem lastM_cnt : cnt lastM = 1 := by decide
set_option maxHeartbeats 4000000 in
set_option maxRecDepth 100000 in
theorem top_alive_calls (L0 n1 n2 : Nat) (A0 A1 A2 : Option Addr) (c0 c1 c2 : Nat) (w : World) (hg : L0 = 0 ∨ 60 < L0 ∨ 12 < n1) :
  Calls Tryz.prog 3 #[.slice A0 L0 c0, .slice A1 n1 c1, .slice A2 n2 c2] w fun e w' => e = .returned (.bool true) ∧ Below w.heap.size w w' := by
 rcases Nat.eq_zero_or_pos L0 with h0 | h0
 ·subst h0
  go_enter Tryz.func3, Tryz.ntmps3
  go_wp2_with (first
   | (go_at_call 4; refine (alive_calls _).mono ?_; rintro e w1 ⟨rfl, hw⟩; have HX := Aside0.mk hw; clear hw))
  go_ret
  exact ⟨rfl, HX.out⟩
 ·have e0 : ((L0 : Int) == 0) = false := beq_eq_false_iff_ne.mpr (by omega)
  have e0' : (L0 == 0) = false := beq_eq_false_iff_ne.mpr (by omega)
  by_cases h1 : 60 < L0
  ·have e1 : decide ((L0 : Int) > 60) = true := decide_eq_true (by omega)
   have e1' := eq_true (show (60 : Int) < (L0 : Int) by omega)
   have e1'' := eq_true (show 60 < L0 by omega)
   clear hg
   go_enter Tryz.func3, Tryz.ntmps3
   go_wp2_with (first
    | (go_at_call 4; refine (alive_calls _).mono ?_; rintro e w1 ⟨rfl, hw⟩; have HX := Aside0.mk hw; clear hw))
   go_ret
   exact ⟨rfl, HX.out⟩
  ·have e1 : decide ((L0 : Int) > 60) = false := decide_eq_false (by omega)
   have e1' := eq_false (show ¬ (60 : Int) < (L0 : Int) by omega)
   have e1'' := eq_false (show ¬ 60 < L0 by omega)
   have e2 : decide ((n1 : Int) > 12) = true := decide_eq_true (by omega)
   have e2' := eq_true (show (12 : Int) < (n1 : Int) by omega)
   have e2'' := eq_true (show 12 < n1 by omega)
   clear hg
   go_enter Tryz.func3, Tryz.ntmps3
   go_wp2_with (first
    | (go_at_call 4; refine (alive_calls _).mono ?_; rintro e w1 ⟨rfl, hw⟩; have HX := Aside0.mk hw; clear hw))
   go_ret
   exact ⟨rfl, HX.out⟩
/-- A goal that the walk doesn't look into. -/
structure Hold (p : Prop) : Prop where mk :: (out : p)
theorem row_cell {w : World} {B g cap n : Nat} {l : List Int} (h : (Kd.int .u8).R 5 w B (fun _ => True) (.slice (some ⟨g, 0, none⟩) n cap) l) (hn : l.length = n) (i : Nat) (hi : i < n) : w.cell? ⟨g, i, none⟩ = some (.int .u8 (l.getD i 0)) ∧ w.frozen? ⟨g, i, none⟩ = false := by
 subst hn
 have := Kd.R_cell (0 : Int) h (i : Int) (by omega) (by omega)
 rw [Int.toNat_natCast] at this
 exact this
theorem row_put {w : World} {B g cap n : Nat} {l : List Int} (h : (Kd.int .u8).R 5 w B (fun _ => True) (.slice (some ⟨g, 0, none⟩) n cap) l) (hn : l.length = n) (i : Nat) (x : Int) : (Kd.int .u8).R 5 (w.setCell ⟨g, i, none⟩ (.int .u8 x)) B (fun _ => True) (.slice (some ⟨g, 0, none⟩) n cap) (l.set i x) := by
 subst hn
 have := Kd.R_put h (i : Int) x
 rw [Int.toNat_natCast] at this
 exact this.1
theorem turnD_at {l : List Int} {n : Nat} (h : l.length = n + 1) : turnD l = l.set n (x1 (l.getD n 0)) := by
 unfold turnD
 rw [h, Nat.add_sub_cancel]
theorem G_frame (F : List (List Int)) (j : Nat) (h : j < F.length) : G (F ++ [lastM]) (1 + (base F j : Int)) = chunks (F.getD j []) := by
 have := G_at (F ++ [lastM]) j (by rw [List.length_append]; omega)
 rwa [base_app F [lastM] (by omega), getD_app_left F [lastM] [] j h] at this
theorem G_last (F : List (List Int)) : G (F ++ [lastM]) (1 + (base F F.length : Int)) = chunks lastM := by
 have := G_at (F ++ [lastM]) F.length (by rw [List.length_append]; simp)
 rwa [base_app F [lastM] (Nat.le_refl _), List.getD_eq_getElem?_getD, List.getElem?_append_right (Nat.le_refl _), Nat.sub_self] at this
theorem str_beq (s : ByteArray) : (s == s) = true := by
 cases s with | mk d =>
 show (d == d) = true
 exact beq_self_eq_true d
theorem str_bne (s : ByteArray) : (s != s) = false := by
 unfold bne
 rw [str_beq]
 rfl
theorem str_last : strOfNums lastM = ⟨#[116, 104, 101, 32, 108, 97, 115, 116, 32, 111, 110, 101]⟩ := by decide
theorem addS (ad : Addr) (q : Nat) : ad.add (q + 1) = ⟨ad.block, ad.off + (q + 1), none⟩ := by
 have := add_field ad 0 (q + 1) (by omega)
 rw [Nat.zero_add] at this
 rw [this]
 cases ad
 simp [Addr.add]
theorem info3 : (Tryz.prog.info? 3).map (fun i => (i.zero, i.size, i.bytes)) = some (some (.int .i64 0), 1, 8) := by kernel_rfl
set_option maxHeartbeats 8000000 in
set_option maxRecDepth 100000 in
theorem top_main_calls (secret : List Int) (F : List (List Int)) (comes : List Int) (L0 n m : Nat) (A0 A1 A2 : Option Addr) (c0 c1 c2 : Nat) (w : World) (hL0 : secret.length = L0) (hL1 : 0 < L0 ∧ L0 ≤ 60) (hc0 : L0 ≤ c0) (hC0 : (Kd.int .u8).C w A0 secret.length secret) (hn : F.length = n) (hn12 : n ≤ 12) (hF : FRows w A1 F) (hm : comes.length = m) (hC2 : (Kd.int .u16).C w A2 comes.length comes) (hu : ∀ x ∈ comes, 0 ≤ x ∧ x < 65536) :
  Calls Tryz.prog 3 #[.slice A0 L0 c0, .slice A1 n c1, .slice A2 m c2] w fun e w' => e = .returned (.bool true) ∧ Below w.heap.size w w' := by
 have e0 : ((L0 : Int) == 0) = false := beq_eq_false_iff_ne.mpr (by omega)
 have e0' : (L0 == 0) = false := beq_eq_false_iff_ne.mpr (by omega)
 have e1 : decide ((L0 : Int) > 60) = false := decide_eq_false (by omega)
 have e1' := eq_false (show ¬ (60 : Int) < (L0 : Int) by omega)
 have e1'' := eq_false (show ¬ 60 < L0 by omega)
 have e2 : decide ((n : Int) > 12) = false := decide_eq_false (by omega)
 have e2' := eq_false (show ¬ (12 : Int) < (n : Int) by omega)
 have e2'' := eq_false (show ¬ 12 < n by omega)
 have HS := Aside0.mk (And.intro hL0 (And.intro hL1 (And.intro hc0 hC0)))
 have HF := Aside0.mk (And.intro hF (And.intro hn hn12))
 have HC := Aside0.mk (And.intro hC2 (And.intro hm hu))
 obtain ⟨KY, M, hKY, hM, hK1, hM1⟩ := keys_ex secret
 have HK := Aside0.mk (And.intro hK1 hM1)
 have HKY := Aside0.mk (And.intro hKY hM)
 clear hK1 hM1 hKY hM hL0 hL1 hc0 hC0 hn hn12 hF hm hC2 hu
 go_enter Tryz.func3, Tryz.ntmps3
 go_wp2_with (first
  | (go_at_call_of 5 (Value.int IntKind.i64 0); refine (newA_calls secret KY M HKY.out.1 HKY.out.2 w.heap.size L0 HS.out.1 A0 c0 _ (Nat.le_refl _) HS.out.2.2.2 HS.out.2.2.1 (by have := HS.out.2.1; omega)).mono ?_; rintro e w1 ⟨ga, gpa, gsa, gsta, gca, gta, gra, rfl, h1, h2⟩; have HX1 : Aside0 (LA w.heap.size w1.heap.size w1 ga gpa gsa gsta gca gta gra KY M 1 0 ∧ Below w.heap.size w w1) := ⟨h1, h2⟩; clear h1 h2)
  | (go_at_call_of 5 (Value.int IntKind.i64 1); refine (newB_calls (G (F ++ [lastM])) secret KY M HKY.out.1 HKY.out.2 L0 HS.out.1 A0 c0 _ (Kd.C_below HS.out.2.2.2 HX1.out.2) HS.out.2.2.1 (by have := HS.out.2.1; omega)).mono ?_; rintro e w2 ⟨gb, gpb, gsb, gstb, gcb, gtb, gmb, grb, rfl, h1, h2, h3⟩; have HX2 : Aside0 (GS w w2 w1.heap.size ga gpa gsa gsta gca gta gra gb gpb gsb gstb gcb gtb gmb grb (G (F ++ [lastM])) KY M 1 0 0 0 1 [] 0 [] (.slice none 0 0) [] (.slice none 0 0)) := ⟨HX1.out.1.below h3, h1, h2, below_step HX1.out.2 h3, ⟨HX1.out.2.size, h3.size⟩, ⟨[], Kd.R_nil _ _ _ _ _, Dgs.nil _ _⟩, Kd.R_nil _ _ _ _ _⟩; generalize w1.heap.size = N0 at HX2; clear h1 h2 h3))
 go_loopg [11, 12, 13] n (fun kq v11 v12 v13 w' => ∃ i : Nat, v13 = .int .i64 (i : Int) ∧ Aside0 (kq = n - i ∧ i ≤ n ∧ Short F i) ∧ Aside0 (∃ last, GS w w' N0 ga gpa gsa gsta gca gta gra gb gpb gsb gstb gcb gtb gmb grb (G (F ++ [lastM])) KY M (1 + (base F i : Int)) last 0 0 1 [] 0 (wayD KY M F i) v11 (firsts F i) v12))
 case atStart => exact ⟨0, by first | rfl | simp, ⟨by omega, Nat.zero_le _, fun j hj => absurd hj (Nat.not_lt_zero _)⟩, ⟨0, by first | exact HX2.out | (simp; exact HX2.out)⟩⟩
 case round =>
  obtain ⟨i, rfl, HI, HG0⟩ := hrel
  obtain ⟨last, hG⟩ := HG0.out
  clear HG0
  obtain ⟨ss, hR1, hD1⟩ := hG.way
  obtain ⟨A11, c11, rfl, _, _⟩ := Kd.R_reads hR1
  obtain ⟨A12, c12, rfl, _, _⟩ := Kd.R_reads hG.firsts
  have hss : ss.length = base F i := by rw [hD1.len, wayD_len]
  rw [hss, firsts_len] at hG
  rw [hss] at hR1
  rw [hss, firsts_len]
  have HG := Aside0.mk hG
  have HW := Aside0.mk (And.intro hR1 (And.intro hD1 hss))
  clear hG hR1 hD1 hss
  by_cases c1 : i < n
  ·have c1b : decide ((i : Int) < (n : Int)) = true := decide_eq_true (by omega)
   have c1c : decide (i < n) = true := decide_eq_true c1
   have h0t := eq_true (show (0 : Int) ≤ (i : Int) by omega)
   have h1t := eq_true (show (i : Int) < (n : Int) by omega)
   obtain ⟨ad1, A3, c3, had, hcf0, hc3, hC3⟩ := HF.out.1.at_ i (by rw [HF.out.2.1]; exact c1)
   subst had
   obtain ⟨L3, hL3⟩ : ∃ L, (F.getD i []).length = L := ⟨_, rfl⟩
   rw [hL3] at hcf0 hc3
   have hcf := pw_cell_below HG.out.bel hcf0
   have HC3 : Aside0 (L3 ≤ c3 ∧ (Kd.int .u8).C w A3 (F.getD i []).length (F.getD i []) ∧ (F.getD i []).length = L3 ∧ i < n ∧ w.cell? (ad1.add i) = some (.slice A3 L3 c3)) := ⟨hc3, hC3, hL3, c1, hcf0⟩
   clear hcf0 hc3 hC3 hL3 c1
   by_cases c2 : L3 ≤ 1500
   ·have c2b : decide ((L3 : Int) > 1500) = false := decide_eq_false (by omega)
    have c2c := eq_false (show ¬ (1500 : Int) < (L3 : Int) by omega)
    have c2d := eq_false (show ¬ 1500 < L3 by omega)
    have HL3 := Aside0.mk c2
    clear c2
    go_wp2_with (first
     | (go_at_call 6; refine (sendA_calls w.heap.size N0 ga gpa gsa gsta gca gta gra KY M HK.out.1 HK.out.2 (1 + (base F i : Int)) last (i : Int) (by have := base_le HI.out.2.2; have := HC3.out.2.2.2.1; have := HF.out.2.2; omega) (F.getD i []) L3 HC3.out.2.2.1 A3 c3 _ HG.out.la HG.out.bel.size (Kd.C_below HC3.out.2.1 HG.out.bel) HC3.out.1 HL3.out).mono ?_; rintro e w4 ⟨v4, last4, tt, rfl, hla, hf, hR, hD⟩; obtain ⟨A4, c4, rfl, _, _⟩ := Kd.R_reads hR; have HX4 : Aside0 (GS w w4 N0 ga gpa gsa gsta gca gta gra gb gpb gsb gstb gcb gtb gmb grb (G (F ++ [lastM])) KY M (1 + (base F i : Int) + (cnt (F.getD i []) : Int)) last4 0 0 1 [] 0 (wayD KY M F i) (.slice A11 (base F i) c11) (firsts F i) (.slice A12 i c12) ∧ slK.R 22 w4 wr.heap.size (fun _ => True) (.slice A4 tt.length c4) tt ∧ Dgs w.heap.size w4 tt (dgs KY M (1 + (base F i : Int)) (F.getD i []) (cnt (F.getD i []))) ∧ slK.R 22 w4 w.heap.size (fun _ => True) (.slice A11 (base F i) c11) ss ∧ Dgs w.heap.size w4 ss (wayD KY M F i)) := ⟨HG.out.sent hla hf, hR, hD.lower HG.out.bel.size, R_norow HW.out.1 hf HG.out.la.norow (by decide), HW.out.2.1.fr hf HG.out.la.norow.not5⟩; clear hla hf hR hD)
     | ((with_reducible refine gate_builtin (b := .append) (xs := #[.tmp 93, .tmp 96]) rfl ?_); at_builtin; refine Kd.R_append (Kd.int .i64) (w0 := w4) w.heap.size rfl (.tmp 93) (.tmp 96) 30 3 (.int .i64 0) 8 rfl Tryz.underlying30 info3 rfl (by decide) (by decide) _ (firsts F i) (base F i : Int) [.int .i64 (base F i : Int)] (fun _ => True) (fun _ => False) rfl rfl rfl (fun _ hk => hk.elim) (fun _ _ => trivial) HX4.out.1.firsts (Below.refl _ _) HX4.out.1.bel.size (by rw [firsts_len]; have := HC3.out.2.2.2.1; have := HF.out.2.2; omega) ?_; intro v5 w5 ho hb hg hat; have HX5 : Aside0 (GS w w5 N0 ga gpa gsa gsta gca gta gra gb gpb gsb gstb gcb gtb gmb grb (G (F ++ [lastM])) KY M (1 + (base F i : Int) + (cnt (F.getD i []) : Int)) last4 0 0 1 [] 0 (wayD KY M F i) (.slice A11 (base F i) c11) (firsts F (i + 1)) v5 ∧ slK.R 22 w5 wr.heap.size (fun _ => True) (.slice A4 tt.length c4) tt ∧ Dgs w.heap.size w5 tt (dgs KY M (1 + (base F i : Int)) (F.getD i []) (cnt (F.getD i []))) ∧ slK.R 22 w5 w.heap.size (fun _ => True) (.slice A11 (base F i) c11) ss ∧ Dgs w.heap.size w5 ss (wayD KY M F i)) := ⟨by rw [firsts_succ]; exact HX4.out.1.app_first ho hg, Kd.R_over HX4.out.2.1 HX4.out.1.firsts (by decide) hg, HX4.out.2.2.1.fr (fr_of_grown hg) (rows3_own HX4.out.1.firsts (.inr rfl)).not5, Kd.R_over HX4.out.2.2.2.1 HX4.out.1.firsts (by decide) hg, HX4.out.2.2.2.2.fr (fr_of_grown hg) (rows3_own HX4.out.1.firsts (.inr rfl)).not5⟩; clear ho hb hg hat)
     | ((with_reducible refine gate_builtin (b := .append) (xs := #[.tmp 98, .tmp 99]) rfl ?_); at_builtin; refine Kd.R_append_rows slK (w0 := w5) w.heap.size rfl (.tmp 98) (.tmp 99) 23 22 (.slice none 0 0) 24 rfl Tryz.underlying23 info22 rfl (by decide) (by decide) _ ss tt A4 tt.length c4 (fun _ => True) (fun _ => False) rfl rfl HX5.out.2.2.2.1 (Kd.R_reads' HX5.out.2.1).2.2 (fun _ _ h => h) (fun _ hk => hk.elim) (fun _ _ => trivial) (Below.refl _ _) HX5.out.1.bel.size (by have h1 := HX5.out.2.2.1.len; rw [dgs_len] at h1; have := (cnt_le (l := F.getD i []) (by have := HC3.out.2.2.1; have := HL3.out; omega)).2; have := HW.out.2.2; have := base_le HI.out.2.2; have := HC3.out.2.2.2.1; have := HF.out.2.2; omega) ?_; intro v6 w6 ho hb hg hat; have HX6 : Aside0 (GS w w6 N0 ga gpa gsa gsta gca gta gra gb gpb gsb gstb gcb gtb gmb grb (G (F ++ [lastM])) KY M (1 + (base F (i + 1) : Int)) last4 0 0 1 [] 0 (wayD KY M F (i + 1)) v6 (firsts F (i + 1)) v5) := ⟨by have h1 := HX5.out.1.app_way HX5.out.2.2.2.1 HX5.out.2.2.2.2 HX5.out.2.2.1 ho hg; rw [show (1 : Int) + (base F (i + 1) : Int) = 1 + (base F i : Int) + (cnt (F.getD i []) : Int) by show (1 : Int) + ((base F i + cnt (F.getD i []) : Nat) : Int) = _; omega]; exact h1⟩; clear ho hb hg hat))
    go_roundg (gk - 1)
    case measure => have := HI.out; have := HC3.out.2.2.2.1; omega
    case rel =>
     refine ⟨i + 1, ?_, ⟨by have := HI.out; omega, by have := HC3.out.2.2.2.1; omega, fun j hj => ?_⟩, ⟨_, HX6.out⟩⟩
     ·have := HC3.out.2.2.2.1
      have := HF.out.2.2
      first
      | rfl
      | (congr 1; unfold wrap64; omega)
      | (congr 1; done)
     ·rcases Nat.lt_or_ge j i with h | h
      ·exact HI.out.2.2 j h
      ·rw [show j = i by omega, HC3.out.2.2.1]
       exact HL3.out
   ·have c2b : decide ((L3 : Int) > 1500) = true := decide_eq_true (by omega)
    have c2c := eq_true (show (1500 : Int) < (L3 : Int) by omega)
    have c2d := eq_true (show 1500 < L3 by omega)
    clear c2
    go_wp2_with (first
     | (go_at_call 4; refine (alive_calls _).mono ?_; rintro e w4 ⟨rfl, hw⟩; have HX4 := Aside0.mk (below_step HG.out.bel hw); clear hw))
    try rw [Exit.noGoto_ret]
    go_ret
    exact ⟨rfl, HX4.out⟩
  ·have hi : i = n := by have := HI.out; omega
   have c1b : decide ((i : Int) < (n : Int)) = false := decide_eq_false (by omega)
   have c1c : decide (i < n) = false := decide_eq_false c1
   subst hi
   have HSH := Aside0.mk HI.out.2.2
   clear c1 HI
   go_wp2
   go_loopg [16, 17] 81 (fun kq v16 v17 w' => ∃ nxt j : Nat, v16 = .int .i64 (nxt : Int) ∧ v17 = .int .i64 (j : Int) ∧ Aside0 (kq = 81 - j ∧ j ≤ 80 ∧ j ≤ m) ∧ Aside0 (∃ N f fl T clock, GS w w' N0 ga gpa gsa gsta gca gta gra gb gpb gsb gstb gcb gtb gmb grb (G (F ++ [lastM])) KY M (1 + (base F i : Int)) last N f fl T clock (wayD KY M F i) (.slice A11 (base F i) c11) (firsts F i) (.slice A12 i c12) ∧ PI F i nxt N fl T))
   case atStart => exact ⟨0, 0, by first | rfl | simp, by first | rfl | simp, ⟨rfl, Nat.zero_le _, Nat.zero_le _⟩, ⟨0, 0, 1, [], 0, HG.out, PI.start F i⟩⟩
   case round =>
    obtain ⟨nxt, j, rfl, rfl, HJ, HG1⟩ := hrel
    obtain ⟨N, f, fl, T, clock, hG2, hPI⟩ := HG1.out
    have HG2 := Aside0.mk hG2
    have HPI := Aside0.mk hPI
    clear HG1 hG2 hPI
    by_cases hc : j < m ∧ j < 80 ∧ 0 < base F i
    ·have d1 : decide ((j : Int) < (m : Int)) = true := decide_eq_true (by omega)
     have d1' := eq_true (show (j : Int) < (m : Int) by omega)
     have d1'' := eq_true (show j < m by omega)
     have d2 : decide ((j : Int) < 80) = true := decide_eq_true (by omega)
     have d2' := eq_true (show (j : Int) < 80 by omega)
     have d2'' := eq_true (show j < 80 by omega)
     have d3 : decide ((base F i : Int) > 0) = true := decide_eq_true (by omega)
     have d3' := eq_true (show (0 : Int) < (base F i : Int) by omega)
     have d3'' := eq_true (show 0 < base F i by omega)
     have d4 := eq_true (show (0 : Int) ≤ (j : Int) by omega)
     obtain ⟨ad2, hA2, hcx0⟩ := Kd.at_int HC.out.1 (j : Int) (by omega) (by rw [HC.out.2.1]; omega)
     subst hA2
     obtain ⟨x, hx⟩ : ∃ x, Go.Proofs.YteadamkkbgnpeaaGreatW.PrintWords.rd comes (j : Int) = x := ⟨_, rfl⟩
     rw [hx, Int.toNat_natCast] at hcx0
     have hcx := pw_cell_below HG2.out.bel hcx0
     have HX0 : Aside0 (w.cell? (ad2.add j) = some (.int .u16 x) ∧ 0 ≤ x ∧ x < 65536) := ⟨hcx0, by rw [← hx]; exact HC.out.2.2 _ (J.rd_mem (by omega) (by rw [HC.out.2.1]; omega))⟩
     have HJ2 := Aside0.mk hc
     obtain ⟨k, hk, hkx⟩ : ∃ k : Nat, k < base F i ∧ (wrap64 (x / 4)).tmod (base F i : Int) = (k : Int) := ⟨(x / 4).toNat % base F i, Nat.mod_lt _ (by omega), by have := HX0.out.2; rw [wrap64_id (by omega), Int.tmod_eq_emod_of_nonneg (by omega), Int.natCast_emod, Int.toNat_of_nonneg (by omega)]⟩
     have d5 := eq_false (show ¬ base F i = 0 by omega)
     have d5' := eq_false (show ¬ (base F i : Int) = 0 by omega)
     have d5'' : ((base F i : Int) == 0) = false := beq_eq_false_iff_ne.mpr (by omega)
     obtain ⟨ss2, hR2, hD2⟩ := HG2.out.way
     have hss2 : ss2.length = base F i := by rw [hD2.len, wayD_len]
     obtain ⟨ad3, hA3, hcw⟩ := slK_at (Kd.R_reads' hR2).2.2 k (by rw [hss2]; exact hk)
     subst hA3
     obtain ⟨⟨A5, n5, c5⟩, hs5⟩ : ∃ s, ss2.getD k sl0 = s := ⟨_, rfl⟩
     have hy5 := hD2.at_ k (by rw [wayD_len]; exact hk)
     rw [hs5] at hcw hy5
     have hcw : wr.cell? (ad3.add k) = some (.slice A5 n5 c5) := hcw
     obtain ⟨dk, hdk⟩ : ∃ d, (wayD KY M F i).getD k [] = d := ⟨_, rfl⟩
     rw [hdk] at hy5
     have HY5 : Aside0 (Byt w.heap.size wr (.slice A5 n5 c5) dk ∧ (wayD KY M F i).getD k [] = dk ∧ k < base F i) := ⟨hy5, hdk, hk⟩
     obtain ⟨jj, hjj, hb1, hb2, hwd⟩ := way_at KY M F i k HY5.out.2.2
     rw [HY5.out.2.1] at hwd
     have HD : Aside0 (dk = dgV KY M (1 + (k : Int)) (wrV (1 + (base F jj : Int)) (k - base F jj) (cnt (F.getD jj [])) (chunk (F.getD jj []) (k - base F jj))) ∧ jj < i ∧ base F jj ≤ k ∧ k < base F (jj + 1) ∧ k - base F jj < cnt (F.getD jj []) ∧ dk.length ≤ 507 ∧ 0 < dk.length) := by
      have h1 : base F (jj + 1) = base F jj + cnt (F.getD jj []) := rfl
      have h2 : dk.length = 24 + (chunk (F.getD jj []) (k - base F jj)).length + 3 := by rw [hwd, dgV_len, wrV_len]; omega
      have h3 := chunk_len (F.getD jj []) (k - base F jj)
      exact ⟨hwd, hjj, hb1, hb2, by omega, by omega, by omega⟩
     obtain ⟨LD, hLD⟩ : ∃ L, dk.length = L := ⟨_, rfl⟩
     obtain ⟨LE, hLE⟩ : ∃ E, LD = E + 1 := ⟨LD - 1, by have := HD.out.2.2.2.2.2.2; omega⟩
     have HLD := Aside0.mk hLD
     have HLE := Aside0.mk hLE
     have d7 : wrap64 ((LD : Int) - 1) = (LE : Int) := by rw [wrap64_id (by have := HD.out.2.2.2.2.2.1; omega)]; omega
     have d7' := eq_true (show (0 : Int) ≤ (LE : Int) by omega)
     have d7'' := eq_true (show (LE : Int) < (LD : Int) by omega)
     clear hLE
     clear hwd hjj hb1 hb2 hLD
     have hcw2 := pw_cell_below (below_alloc (Below.refl wr.heap.size wr) (.cells #[] 5)) hcw
     have d6 := eq_true (show (0 : Int) ≤ (k : Int) by omega)
     have d6' := eq_true (show (k : Int) < (base F i : Int) by omega)
     have d6'' := eq_true hk
     clear hcx0 hx hc hR2 hD2 hss2 hs5 hy5 hdk hk
     obtain ⟨y, hy⟩ : ∃ y, dk.getD LE 0 = y := ⟨_, rfl⟩
     have HYY := Aside0.mk hy
     clear hy
     cases hbt : (Go.bits .and .u16 x 3 == 3) with
     | true =>
      go_wp2_with (first
       | ((with_reducible refine gate_builtin (b := .append) (xs := #[.tmp 125, .tmp 129]) rfl ?_); at_builtin; refine Kd.R_append_rows (Kd.int .u8) (w0 := wr.alloc (.cells #[] 5)) wr.heap.size rfl (.tmp 125) (.tmp 129) 22 5 (.int .u8 0) 1 rfl Tryz.underlying22 Go.Proofs.YteadamkkbgnpeaaGreat.S.infoB5 rfl (by decide) (by decide) (.slice (some ⟨wr.heap.size, 0, none⟩) 0 0) [] dk A5 n5 c5 (fun _ => True) (fun _ => False) rfl rfl (R_empty (blk_new wr _) (Nat.le_refl _)) (by have h := byt_open HY5.out.1; rw [h.1]; exact Kd.C_below h.2.2 (below_alloc (Below.refl _ _) _)) (fun _ _ h => h) (fun _ hk => hk.elim) (fun _ _ => trivial) (Below.refl _ _) (below_alloc (Below.refl _ _) _).size (by have h := byt_open HY5.out.1; have := HD.out.2.2.2.2.2.1; show (0 + n5) * 1 ≤ _; omega) ?_; intro v5 w5 ho hb hg hat; rw [List.nil_append] at ho; obtain ⟨g5, cap5, rfl, hg5, _, _⟩ := Kd.R_form ho HD.out.2.2.2.2.2.2; rw [HLD.out] at ho ⊢; have hbw := below_trans (below_alloc (Below.refl wr.heap.size wr) (.cells #[] 5)) hb; have HX5 : Aside0 (GS w w5 N0 ga gpa gsa gsta gca gta gra gb gpb gsb gstb gcb gtb gmb grb (G (F ++ [lastM])) KY M (1 + (base F i : Int)) last N f fl T clock (wayD KY M F i) (.slice (some ad3) (base F i) c11) (firsts F i) (.slice A12 i c12) ∧ (Kd.int .u8).R 5 w5 wr.heap.size (fun _ => True) (.slice (some ⟨g5, 0, none⟩) LD cap5) dk ∧ Below wr.heap.size wr w5 ∧ wr.heap.size ≤ g5) := ⟨HG2.out.below hbw, ho, hbw, hg5⟩; have hcx5 := pw_cell_below HX5.out.1.bel HX0.out.1; have hcy : w5.cell? ⟨g5, LE, none⟩ = some (.int .u8 y) := (by rw [← HYY.out]; exact (row_cell HX5.out.2.1 HLD.out LE (by have := HLE.out; omega)).1); have hfy := (row_cell HX5.out.2.1 HLD.out LE (by have := HLE.out; omega)).2; clear ho hb hg hat hbw hg5)
       | (go_at_call 7; refine Hold.out ?_))
      have hrow := row_put HX5.out.2.1 HLD.out LE (Go.bits .xor .u8 y 1)
      rw [show dk.set LE (Go.bits .xor .u8 y 1) = turnD dk from by rw [← HYY.out]; exact (turnD_at (by rw [HLD.out, HLE.out])).symm, HD.out.1] at hrow
      have HX6 : Aside0 (GS w (w5.setCell ⟨g5, LE, none⟩ (.int .u8 (Go.bits .xor .u8 y 1))) N0 ga gpa gsa gsta gca gta gra gb gpb gsb gstb gcb gtb gmb grb (G (F ++ [lastM])) KY M (1 + (base F i : Int)) last N f fl T clock (wayD KY M F i) (.slice (some ad3) (base F i) c11) (firsts F i) (.slice A12 i c12) ∧ (Kd.int .u8).R 5 (w5.setCell ⟨g5, LE, none⟩ (.int .u8 (Go.bits .xor .u8 y 1))) wr.heap.size (fun _ => True) (.slice (some ⟨g5, 0, none⟩) LD cap5) (turnD (dgV KY M (1 + (k : Int)) (wrV (1 + (base F jj : Int)) (k - base F jj) (cnt (F.getD jj [])) (chunk (F.getD jj []) (k - base F jj)))))) := ⟨HG2.out.below (HX5.out.2.2.1.setCell (p := ⟨g5, LE, none⟩) HX5.out.2.2.2 _), hrow⟩
      clear hrow
      generalize w5.setCell ⟨g5, LE, none⟩ (.int .u8 (Go.bits .xor .u8 y 1)) = w6 at HX6 ⊢
      obtain ⟨hq1, hq2, hq3⟩ := Kd.R_reads' HX6.out.2
      have hok := chunk_ok (l := F.getD jj []) (HSH.out jj HD.out.2.1) (id := 1 + (base F jj : Int)) (by have := base_mono F (Nat.le_of_lt HD.out.2.1); have := base_le HSH.out; have := HF.out.2.2; have := HF.out.2.1; omega) (k - base F jj) HD.out.2.2.2.2.1
      refine ⟨?_⟩
      refine (hear_bad_calls (G (F ++ [lastM])) N0 gb gpb gsb gstb gcb gtb gmb grb KY M HK.out.1 HK.out.2 N f fl T clock (1 + (k : Int)) ((j : Int) % 4294967296) (wrV (1 + (base F jj : Int)) (k - base F jj) (cnt (F.getD jj [])) (chunk (F.getD jj []) (k - base F jj))) (by have := HY5.out.2.2; have := base_le HSH.out; have := HF.out.2.2; have := HF.out.2.1; omega) ⟨by rw [wrV_len]; have := hok.2.2.1; omega, wrV_b hok (chunk_b (HF.out.1.b jj (by have := HD.out.2.1; have := HF.out.2.1; omega)) _)⟩ (some ⟨g5, 0, none⟩) LD cap5 hq1 hq2 _ HX6.out.1.lb hq3).mono ?_
      rintro e w7 ⟨rfl, hw⟩
      have HX7 := Aside0.mk (HX6.out.1.below hw)
      have hcx7 := pw_cell_below HX7.out.bel HX0.out.1
      clear hw hq1 hq2 hq3 hok
      go_wp2
      go_roundg (81 - (j + 1))
      case measure => have := HJ.out; have := HJ2.out; omega
      case rel =>
       refine ⟨nxt, j + 1, ?_, ?_, ⟨rfl, by have := HJ2.out; omega, by have := HJ2.out; omega⟩, ⟨_, _, _, _, _, HX7.out, HPI.out⟩⟩
       ·rfl
       ·have := HJ2.out
        first
        | rfl
        | (congr 1; unfold wrap64; omega)
        | (congr 1; done)
     | false =>
      go_wp2_with (first
       | ((with_reducible refine gate_builtin (b := .append) (xs := #[.tmp 125, .tmp 129]) rfl ?_); at_builtin; refine Kd.R_append_rows (Kd.int .u8) (w0 := wr.alloc (.cells #[] 5)) wr.heap.size rfl (.tmp 125) (.tmp 129) 22 5 (.int .u8 0) 1 rfl Tryz.underlying22 Go.Proofs.YteadamkkbgnpeaaGreat.S.infoB5 rfl (by decide) (by decide) (.slice (some ⟨wr.heap.size, 0, none⟩) 0 0) [] dk A5 n5 c5 (fun _ => True) (fun _ => False) rfl rfl (R_empty (blk_new wr _) (Nat.le_refl _)) (by have h := byt_open HY5.out.1; rw [h.1]; exact Kd.C_below h.2.2 (below_alloc (Below.refl _ _) _)) (fun _ _ h => h) (fun _ hk => hk.elim) (fun _ _ => trivial) (Below.refl _ _) (below_alloc (Below.refl _ _) _).size (by have h := byt_open HY5.out.1; have := HD.out.2.2.2.2.2.1; show (0 + n5) * 1 ≤ _; omega) ?_; intro v5 w5 ho hb hg hat; rw [List.nil_append] at ho; obtain ⟨g5, cap5, rfl, hg5, _, _⟩ := Kd.R_form ho HD.out.2.2.2.2.2.2; rw [HLD.out] at ho ⊢; have hbw := below_trans (below_alloc (Below.refl wr.heap.size wr) (.cells #[] 5)) hb; have HX5 : Aside0 (GS w w5 N0 ga gpa gsa gsta gca gta gra gb gpb gsb gstb gcb gtb gmb grb (G (F ++ [lastM])) KY M (1 + (base F i : Int)) last N f fl T clock (wayD KY M F i) (.slice (some ad3) (base F i) c11) (firsts F i) (.slice A12 i c12) ∧ (Kd.int .u8).R 5 w5 wr.heap.size (fun _ => True) (.slice (some ⟨g5, 0, none⟩) LD cap5) dk ∧ Below wr.heap.size wr w5 ∧ wr.heap.size ≤ g5) := ⟨HG2.out.below hbw, ho, hbw, hg5⟩; have hcx5 := pw_cell_below HX5.out.1.bel HX0.out.1; clear ho hb hg hat hbw hg5)
       | (go_at_call 7; refine Hold.out ?_))
      have hGJ := G_frame F jj (by have := HD.out.2.1; have := HF.out.2.1; omega)
      have hok := chunks_whole (l := F.getD jj []) (HSH.out jj HD.out.2.1) (id := 1 + (base F jj : Int)) (by have := base_mono F (Nat.le_of_lt HD.out.2.1); have := base_le HSH.out; have := HF.out.2.2; have := HF.out.2.1; omega)
      have hgl : (G (F ++ [lastM]) (1 + (base F jj : Int))).length = cnt (F.getD jj []) := by rw [hGJ, chunks_len]
      obtain ⟨hq1, hq2, hq3⟩ := Kd.R_reads' HX5.out.2.1
      rw [HD.out.1] at hq1 hq3
      refine ⟨?_⟩
      refine (hear_ok_calls (G (F ++ [lastM])) N0 gb gpb gsb gstb gcb gtb gmb grb KY M HK.out.1 HK.out.2 N f fl T clock (1 + (k : Int)) ((j : Int) % 4294967296) (1 + (base F jj : Int)) (k - base F jj) (cnt (F.getD jj [])) (chunk (F.getD jj []) (k - base F jj)) (by have := HY5.out.2.2; have := base_le HSH.out; have := HF.out.2.2; have := HF.out.2.1; omega) (by rw [hgl, hGJ]; exact hok) (by rw [hgl]; exact HD.out.2.2.2.2.1) hgl (by rw [hGJ]; exact chunks_get _ _ HD.out.2.2.2.2.1) (chunk_b (HF.out.1.b jj (by have := HD.out.2.1; have := HF.out.2.1; omega)) _) (some ⟨g5, 0, none⟩) LD cap5 hq1 hq2 _ HX5.out.1.lb HX5.out.1.n0.2 hq3).mono ?_
      rintro e w7 ⟨v7, told, er, N7, f7, fl7, T7, clock7, rfl, hp⟩
      have HX7 := Aside0.mk (HX5.out.1.heard hp.lb hp.fr)
      have HPI7 := Aside0.mk (HPI.out.step HD.out.2.1 ⟨HD.out.2.2.1, HD.out.2.2.2.1⟩ hp.ids hp.fl1 hp.fl2 hp.pn)
      have hcx7 := pw_cell_below HX7.out.bel HX0.out.1
      clear hq1 hq2 hq3 hok
      cases told with
      | false =>
       clear hp hGJ hgl
       go_wp2
       go_roundg (81 - (j + 1))
       case measure => have := HJ.out; have := HJ2.out; omega
       case rel =>
        refine ⟨nxt, j + 1, ?_, ?_, ⟨rfl, by have := HJ2.out; omega, by have := HJ2.out; omega⟩, ⟨_, _, _, _, _, HX7.out, HPI7.out⟩⟩
        ·rfl
        ·have := HJ2.out
         first
         | rfl
         | (congr 1; unfold wrap64; omega)
         | (congr 1; done)
      | true =>
       obtain ⟨rfl, hfl, hfl7, hy7⟩ := hp.yes rfl
       rw [hGJ, chunks_flat] at hy7
       have HTL := Aside0.mk (HPI.out.tell HD.out.2.1 hfl HPI7.out hfl7)
       obtain ⟨A7, c7, rfl, hc7, hC7, _⟩ := hy7.out
       obtain ⟨L7, hL7⟩ : ∃ L, (F.getD jj []).length = L := ⟨_, rfl⟩
       obtain ⟨s7, hs7⟩ : ∃ s, strOfNums (F.getD jj []) = s := ⟨_, rfl⟩
       obtain ⟨ad1, A8, c8, hA1, hcf8, _, hC8⟩ := HF.out.1.at_ jj (by have := HD.out.2.1; have := HF.out.2.1; omega)
       subst hA1
       rw [hL7] at hcf8
       have hcf7 := pw_cell_below HX7.out.bel hcf8
       have hcv1 : ∀ q : Nat, (convert 22 9 (.slice A7 L7 c7)).run Tryz.prog (w7.drewN q) = .ok (.string s7) (w7.drewN q) := fun q => by
        rw [← hs7, ← hL7]
        exact Kd.C_string Tryz.underlying22 Tryz.underlying5 Tryz.underlying9 (Kd.C_below hC7 (pw_below_drewN (Below.refl _ _) q))
       have hcv2 : ∀ q : Nat, (convert 22 9 (.slice A8 L7 c8)).run Tryz.prog (w7.drewN q) = .ok (.string s7) (w7.drewN q) := fun q => by
        rw [← hs7, ← hL7]
        exact Kd.C_string Tryz.underlying22 Tryz.underlying5 Tryz.underlying9 (Kd.C_below hC8 (below_trans HX7.out.bel (pw_below_drewN (Below.refl _ _) q)))
       rw [hL7]
       have HFR : Aside0 (∀ q, q < i → ∃ ad, A12 = some ad ∧ w7.cell? (ad.add q) = some (.int .i64 (base F q : Int))) := ⟨fun q hq => by
        have hC := (Kd.R_reads' HX7.out.firsts).2.2
        rw [firsts_len] at hC
        obtain ⟨ad, e1, e2⟩ := Kd.at_int hC (q : Int) (by omega) (by omega)
        rw [firsts_at F i q hq, Int.toNat_natCast] at e2
        exact ⟨ad, e1, e2⟩⟩
       obtain ⟨ad12, hA12, hcj⟩ := HFR.out jj HD.out.2.1
       subst hA12
       clear hp hGJ hgl hfl hfl7 hy7 hc7 hC7 hL7 hs7 hcf8 hC8
       go_wp2
       go_loopg [16] (jj + 1) (fun kq v16 w' => ∃ q : Nat, v16 = .int .i64 (q : Int) ∧ Aside0 (nxt ≤ q ∧ q ≤ jj ∧ jj - q < kq) ∧ w' = w7)
       case atStart => exact ⟨nxt, by first | rfl | simp, ⟨Nat.le_refl _, HTL.out.1, by omega⟩, rfl⟩
       case round =>
        obtain ⟨q, rfl, HQ, hwq⟩ := hrel
        subst hwq
        have q1 : decide ((q : Int) < (i : Int)) = true := decide_eq_true (by have := HQ.out; have := HD.out.2.1; omega)
        have q1' := eq_true (show (q : Int) < (i : Int) by have := HQ.out; have := HD.out.2.1; omega)
        have q1'' := eq_true (show q < i by have := HQ.out; have := HD.out.2.1; omega)
        have q2 : wrap64 ((q : Int) + 1) = (q : Int) + 1 := by rw [wrap64_id (by have := HQ.out; have := HD.out.2.1; have := HF.out.2.2; have := HF.out.2.1; omega)]
        have q3 := eq_true (show (0 : Int) ≤ (q : Int) + 1 by omega)
        by_cases hqj : q < jj
        ·have q4 : decide ((q : Int) + 1 < (i : Int)) = true := decide_eq_true (by have := HD.out.2.1; omega)
         have q4' := eq_true (show (q : Int) + 1 < (i : Int) by have := HD.out.2.1; omega)
         have q4'' := eq_true (show q + 1 < i by have := HD.out.2.1; omega)
         obtain ⟨_, e1, hcq⟩ := HFR.out (q + 1) (by have := HD.out.2.1; omega)
         injection e1 with e1
         subst e1
         have hle : base F (q + 1) ≤ k := Nat.le_trans (base_mono F (by omega)) HD.out.2.2.1
         have q5 : decide ((base F (q + 1) : Int) ≤ (k : Int)) = true := decide_eq_true (by omega)
         have q5' := eq_true (show (base F (q + 1) : Int) ≤ (k : Int) by omega)
         have q5'' := eq_true hle
         have HQJ := Aside0.mk hqj
         clear hle hqj
         rw [addS] at hcq
         go_wp2
         go_roundg (gk - 1)
         case measure => have := HQ.out; omega
         case rel =>
          refine ⟨q + 1, ?_, ⟨by have := HQ.out; omega, HQJ.out, by have := HQ.out; have := HQJ.out; omega⟩, rfl⟩
          first
          | rfl
          | (congr 1; done)
          | (congr 1; unfold wrap64; omega)
        ·have hqe : q = jj := by have := HQ.out; omega
         subst hqe
         have q6 : decide ((base F q : Int) > (k : Int)) = false := decide_eq_false (by have := HD.out.2.2.1; omega)
         have q6' := eq_false (show ¬ (k : Int) < (base F q : Int) by have := HD.out.2.2.1; omega)
         have q6'' := eq_false (show ¬ k < base F q by have := HD.out.2.2.1; omega)
         have q7 : decide ((q : Int) ≥ (i : Int)) = false := decide_eq_false (by have := HD.out.2.1; omega)
         have q7' := eq_false (show ¬ (i : Int) ≤ (q : Int) by have := HD.out.2.1; omega)
         have q7'' := eq_false (show ¬ i ≤ q by have := HD.out.2.1; omega)
         have q8 : (s7 != s7) = false := str_bne s7
         have q9 : (s7 == s7) = true := str_beq s7
         have q0 := eq_true (show (0 : Int) ≤ (q : Int) by omega)
         by_cases hqi : q + 1 < i
         ·have q4 : decide ((q : Int) + 1 < (i : Int)) = true := decide_eq_true (by omega)
          have q4' := eq_true (show (q : Int) + 1 < (i : Int) by omega)
          have q4'' := eq_true hqi
          obtain ⟨_, e1, hcq⟩ := HFR.out (q + 1) hqi
          injection e1 with e1
          subst e1
          rw [addS] at hcq
          have q5 : decide ((base F (q + 1) : Int) ≤ (k : Int)) = false := decide_eq_false (by have := HD.out.2.2.2.1; omega)
          have q5' := eq_false (show ¬ (base F (q + 1) : Int) ≤ (k : Int) by have := HD.out.2.2.2.1; omega)
          have q5'' := eq_false (show ¬ base F (q + 1) ≤ k by have := HD.out.2.2.2.1; omega)
          clear hqi
          go_wp2
          go_quiet (fail)
          have HX8 := Aside0.mk (HX7.out.below (pw_below_drewN (Below.refl _ _) nq))
          go_wp2
          go_roundg (81 - (j + 1))
          case measure => have := HJ.out; have := HJ2.out; omega
          case rel =>
           refine ⟨q + 1, j + 1, ?_, ?_, ⟨rfl, by have := HJ2.out; omega, by have := HJ2.out; omega⟩, ⟨_, _, _, _, _, HX8.out, HTL.out.2⟩⟩
           ·first
            | rfl
            | (congr 1; done)
            | (congr 1; unfold wrap64; omega)
           ·have := HJ2.out
            first
            | rfl
            | (congr 1; unfold wrap64; omega)
            | (congr 1; done)
         ·have q4 : decide ((q : Int) + 1 < (i : Int)) = false := decide_eq_false (by omega)
          have q4' := eq_false (show ¬ (q : Int) + 1 < (i : Int) by omega)
          have q4'' := eq_false hqi
          clear hqi
          go_wp2
          go_quiet (fail)
          have HX8 := Aside0.mk (HX7.out.below (pw_below_drewN (Below.refl _ _) nq))
          go_wp2
          go_roundg (81 - (j + 1))
          case measure => have := HJ.out; have := HJ2.out; omega
          case rel =>
           refine ⟨q + 1, j + 1, ?_, ?_, ⟨rfl, by have := HJ2.out; omega, by have := HJ2.out; omega⟩, ⟨_, _, _, _, _, HX8.out, HTL.out.2⟩⟩
           ·first
            | rfl
            | (congr 1; done)
            | (congr 1; unfold wrap64; omega)
           ·have := HJ2.out
            first
            | rfl
            | (congr 1; unfold wrap64; omega)
            | (congr 1; done)
    ·by_cases h1 : j < m
     ·by_cases h2 : j < 80
      ·have d1 : decide ((j : Int) < (m : Int)) = true := decide_eq_true (by omega)
       have d1' := eq_true (show (j : Int) < (m : Int) by omega)
       have d1'' := eq_true (show j < m by omega)
       have d2 : decide ((j : Int) < 80) = true := decide_eq_true (by omega)
       have d2' := eq_true (show (j : Int) < 80 by omega)
       have d2'' := eq_true (show j < 80 by omega)
       have d3 : decide ((base F i : Int) > 0) = false := decide_eq_false (by omega)
       have d3' := eq_false (show ¬ (0 : Int) < (base F i : Int) by omega)
       have d3'' := eq_false (show ¬ 0 < base F i by omega)
       clear h1 h2
       have E1 := fun W C n c => conv22 W C n c
       clear hc
       go_wp2_with (first
        | (go_at_call 6; refine (send1_calls w.heap.size N0 ga gpa gsa gsta gca gta gra KY M HK.out.1 HK.out.2 (1 + (base F i : Int)) last 99 (by have := base_le HSH.out; have := HF.out.2.2; have := HF.out.2.1; omega) lastM lastM_cnt 12 rfl _ 12 _ (HG2.out.la.below (below_alloc (Below.refl _ _) _)) (Nat.le_trans HG2.out.bel.size (below_alloc (Below.refl _ _) _).size) (lit_C (l := lastM) (blk_new wr _) (by decide)) (Nat.le_refl _) (by decide)).mono ?_; rintro e w3 ⟨ad, c3, A5, n5, c5, last3, rfl, hcell, hy, hla, hf⟩; have HX3 : Aside0 (GS w w3 N0 ga gpa gsa gsta gca gta gra gb gpb gsb gstb gcb gtb gmb grb (G (F ++ [lastM])) KY M (1 + (base F i : Int) + 1) last3 N f fl T clock (wayD KY M F i) (.slice A11 (base F i) c11) (firsts F i) (.slice A12 i c12) ∧ Byt 0 w3 (.slice A5 n5 c5) (dgV KY M (1 + (base F i : Int)) (wrV (1 + (base F i : Int)) 0 1 lastM))) := ⟨(HG2.out.below (below_alloc (Below.refl _ _) _)).sent hla hf, hy.lower (Nat.zero_le _)⟩; clear hy hla hf)
        | (go_at_call 7; refine (hear1_calls (G (F ++ [lastM])) N0 gb gpb gsb gstb gcb gtb gmb grb KY M HK.out.1 HK.out.2 N f fl T clock (1 + (base F i : Int)) 7 lastM 12 rfl (by have := G_last F; rw [HF.out.2.1] at this; exact this) lastM_cnt (by decide) (by unfold AllB; decide) (by have := base_le HSH.out; have := HF.out.2.2; have := HF.out.2.1; omega) (by have := HPI.out.nN; omega) HPI.out.fl2 (fun y hy => by obtain ⟨q, hq, e⟩ := HPI.out.ids y hy; have := base_strict F hq; omega) A5 n5 c5 _ HX3.out.1.lb HX3.out.1.n0.2 HX3.out.2).mono ?_; rintro e w4 ⟨A6, c6, fl4, T4, clock4, rfl, hy4, hlb, hf⟩; have HX4 : Aside0 (GS w w4 N0 ga gpa gsa gsta gca gta gra gb gpb gsb gstb gcb gtb gmb grb (G (F ++ [lastM])) KY M (1 + (base F i : Int) + 1) last3 (1 + (base F i : Int)) 7 fl4 T4 clock4 (wayD KY M F i) (.slice A11 (base F i) c11) (firsts F i) (.slice A12 i c12) ∧ Byt w3.heap.size w4 (.slice A6 12 c6) lastM) := ⟨HX3.out.1.heard hlb hf, hy4⟩; clear hy4 hlb hf)
        | (go_at_call 8; refine (linkTo_calls gb gpb gsb gtb grb 0 (1 + (base F i : Int)) 7 (by omega) _ HX4.out.1.lb.link HX4.out.1.lb.peer).mono ?_; rintro e w5 ⟨rfl, hf⟩; have HX5 : Aside0 (Below w.heap.size w w5 ∧ Byt w3.heap.size w5 (.slice A6 12 c6) lastM) := ⟨below_trans HX4.out.1.bel (hf.belowB HX4.out.1.bel.size (fun k e => by rw [e]; exact Nat.le_trans HX4.out.1.n0.1 (HX4.out.1.lo.hlo (w := w4) (k := gpb) (.inl rfl)))), HX4.out.2.fr hf (fun k e => HX4.out.1.lb.not5 k (.inl e))⟩; clear hf)
        | (go_at_call 4; refine (alive_calls _).mono ?_; rintro e w6 ⟨rfl, hw⟩; have HX6 := Aside0.mk (below_step HX5.out.1 hw); have hcv : (convert 22 9 (.slice A6 12 c6)).run Tryz.prog w6 = .ok (.string ⟨#[116, 104, 101, 32, 108, 97, 115, 116, 32, 111, 110, 101]⟩) w6 := (by rw [← str_last]; exact Kd.C_string Tryz.underlying22 Tryz.underlying5 Tryz.underlying9 (byt_open (HX5.out.2.below hw)).2.2); clear hw))
       try rw [Exit.noGoto_ret]
       go_ret
       exact ⟨rfl, HX6.out⟩
      ·have d1 : decide ((j : Int) < (m : Int)) = true := decide_eq_true (by omega)
       have d1' := eq_true (show (j : Int) < (m : Int) by omega)
       have d1'' := eq_true (show j < m by omega)
       have d2 : decide ((j : Int) < 80) = false := decide_eq_false (by omega)
       have d2' := eq_false (show ¬ (j : Int) < 80 by omega)
       have d2'' := eq_false (show ¬ j < 80 by omega)
       clear h1 h2
       have E1 := fun W C n c => conv22 W C n c
       clear hc
       go_wp2_with (first
        | (go_at_call 6; refine (send1_calls w.heap.size N0 ga gpa gsa gsta gca gta gra KY M HK.out.1 HK.out.2 (1 + (base F i : Int)) last 99 (by have := base_le HSH.out; have := HF.out.2.2; have := HF.out.2.1; omega) lastM lastM_cnt 12 rfl _ 12 _ (HG2.out.la.below (below_alloc (Below.refl _ _) _)) (Nat.le_trans HG2.out.bel.size (below_alloc (Below.refl _ _) _).size) (lit_C (l := lastM) (blk_new wr _) (by decide)) (Nat.le_refl _) (by decide)).mono ?_; rintro e w3 ⟨ad, c3, A5, n5, c5, last3, rfl, hcell, hy, hla, hf⟩; have HX3 : Aside0 (GS w w3 N0 ga gpa gsa gsta gca gta gra gb gpb gsb gstb gcb gtb gmb grb (G (F ++ [lastM])) KY M (1 + (base F i : Int) + 1) last3 N f fl T clock (wayD KY M F i) (.slice A11 (base F i) c11) (firsts F i) (.slice A12 i c12) ∧ Byt 0 w3 (.slice A5 n5 c5) (dgV KY M (1 + (base F i : Int)) (wrV (1 + (base F i : Int)) 0 1 lastM))) := ⟨(HG2.out.below (below_alloc (Below.refl _ _) _)).sent hla hf, hy.lower (Nat.zero_le _)⟩; clear hy hla hf)
        | (go_at_call 7; refine (hear1_calls (G (F ++ [lastM])) N0 gb gpb gsb gstb gcb gtb gmb grb KY M HK.out.1 HK.out.2 N f fl T clock (1 + (base F i : Int)) 7 lastM 12 rfl (by have := G_last F; rw [HF.out.2.1] at this; exact this) lastM_cnt (by decide) (by unfold AllB; decide) (by have := base_le HSH.out; have := HF.out.2.2; have := HF.out.2.1; omega) (by have := HPI.out.nN; omega) HPI.out.fl2 (fun y hy => by obtain ⟨q, hq, e⟩ := HPI.out.ids y hy; have := base_strict F hq; omega) A5 n5 c5 _ HX3.out.1.lb HX3.out.1.n0.2 HX3.out.2).mono ?_; rintro e w4 ⟨A6, c6, fl4, T4, clock4, rfl, hy4, hlb, hf⟩; have HX4 : Aside0 (GS w w4 N0 ga gpa gsa gsta gca gta gra gb gpb gsb gstb gcb gtb gmb grb (G (F ++ [lastM])) KY M (1 + (base F i : Int) + 1) last3 (1 + (base F i : Int)) 7 fl4 T4 clock4 (wayD KY M F i) (.slice A11 (base F i) c11) (firsts F i) (.slice A12 i c12) ∧ Byt w3.heap.size w4 (.slice A6 12 c6) lastM) := ⟨HX3.out.1.heard hlb hf, hy4⟩; clear hy4 hlb hf)
        | (go_at_call 8; refine (linkTo_calls gb gpb gsb gtb grb 0 (1 + (base F i : Int)) 7 (by omega) _ HX4.out.1.lb.link HX4.out.1.lb.peer).mono ?_; rintro e w5 ⟨rfl, hf⟩; have HX5 : Aside0 (Below w.heap.size w w5 ∧ Byt w3.heap.size w5 (.slice A6 12 c6) lastM) := ⟨below_trans HX4.out.1.bel (hf.belowB HX4.out.1.bel.size (fun k e => by rw [e]; exact Nat.le_trans HX4.out.1.n0.1 (HX4.out.1.lo.hlo (w := w4) (k := gpb) (.inl rfl)))), HX4.out.2.fr hf (fun k e => HX4.out.1.lb.not5 k (.inl e))⟩; clear hf)
        | (go_at_call 4; refine (alive_calls _).mono ?_; rintro e w6 ⟨rfl, hw⟩; have HX6 := Aside0.mk (below_step HX5.out.1 hw); have hcv : (convert 22 9 (.slice A6 12 c6)).run Tryz.prog w6 = .ok (.string ⟨#[116, 104, 101, 32, 108, 97, 115, 116, 32, 111, 110, 101]⟩) w6 := (by rw [← str_last]; exact Kd.C_string Tryz.underlying22 Tryz.underlying5 Tryz.underlying9 (byt_open (HX5.out.2.below hw)).2.2); clear hw))
       try rw [Exit.noGoto_ret]
       go_ret
       exact ⟨rfl, HX6.out⟩
     ·have d1 : decide ((j : Int) < (m : Int)) = false := decide_eq_false (by omega)
      have d1' := eq_false (show ¬ (j : Int) < (m : Int) by omega)
      have d1'' := eq_false (show ¬ j < m by omega)
      clear h1
      have E1 := fun W C n c => conv22 W C n c
      clear hc
      go_wp2_with (first
       | (go_at_call 6; refine (send1_calls w.heap.size N0 ga gpa gsa gsta gca gta gra KY M HK.out.1 HK.out.2 (1 + (base F i : Int)) last 99 (by have := base_le HSH.out; have := HF.out.2.2; have := HF.out.2.1; omega) lastM lastM_cnt 12 rfl _ 12 _ (HG2.out.la.below (below_alloc (Below.refl _ _) _)) (Nat.le_trans HG2.out.bel.size (below_alloc (Below.refl _ _) _).size) (lit_C (l := lastM) (blk_new wr _) (by decide)) (Nat.le_refl _) (by decide)).mono ?_; rintro e w3 ⟨ad, c3, A5, n5, c5, last3, rfl, hcell, hy, hla, hf⟩; have HX3 : Aside0 (GS w w3 N0 ga gpa gsa gsta gca gta gra gb gpb gsb gstb gcb gtb gmb grb (G (F ++ [lastM])) KY M (1 + (base F i : Int) + 1) last3 N f fl T clock (wayD KY M F i) (.slice A11 (base F i) c11) (firsts F i) (.slice A12 i c12) ∧ Byt 0 w3 (.slice A5 n5 c5) (dgV KY M (1 + (base F i : Int)) (wrV (1 + (base F i : Int)) 0 1 lastM))) := ⟨(HG2.out.below (below_alloc (Below.refl _ _) _)).sent hla hf, hy.lower (Nat.zero_le _)⟩; clear hy hla hf)
       | (go_at_call 7; refine (hear1_calls (G (F ++ [lastM])) N0 gb gpb gsb gstb gcb gtb gmb grb KY M HK.out.1 HK.out.2 N f fl T clock (1 + (base F i : Int)) 7 lastM 12 rfl (by have := G_last F; rw [HF.out.2.1] at this; exact this) lastM_cnt (by decide) (by unfold AllB; decide) (by have := base_le HSH.out; have := HF.out.2.2; have := HF.out.2.1; omega) (by have := HPI.out.nN; omega) HPI.out.fl2 (fun y hy => by obtain ⟨q, hq, e⟩ := HPI.out.ids y hy; have := base_strict F hq; omega) A5 n5 c5 _ HX3.out.1.lb HX3.out.1.n0.2 HX3.out.2).mono ?_; rintro e w4 ⟨A6, c6, fl4, T4, clock4, rfl, hy4, hlb, hf⟩; have HX4 : Aside0 (GS w w4 N0 ga gpa gsa gsta gca gta gra gb gpb gsb gstb gcb gtb gmb grb (G (F ++ [lastM])) KY M (1 + (base F i : Int) + 1) last3 (1 + (base F i : Int)) 7 fl4 T4 clock4 (wayD KY M F i) (.slice A11 (base F i) c11) (firsts F i) (.slice A12 i c12) ∧ Byt w3.heap.size w4 (.slice A6 12 c6) lastM) := ⟨HX3.out.1.heard hlb hf, hy4⟩; clear hy4 hlb hf)
       | (go_at_call 8; refine (linkTo_calls gb gpb gsb gtb grb 0 (1 + (base F i : Int)) 7 (by omega) _ HX4.out.1.lb.link HX4.out.1.lb.peer).mono ?_; rintro e w5 ⟨rfl, hf⟩; have HX5 : Aside0 (Below w.heap.size w w5 ∧ Byt w3.heap.size w5 (.slice A6 12 c6) lastM) := ⟨below_trans HX4.out.1.bel (hf.belowB HX4.out.1.bel.size (fun k e => by rw [e]; exact Nat.le_trans HX4.out.1.n0.1 (HX4.out.1.lo.hlo (w := w4) (k := gpb) (.inl rfl)))), HX4.out.2.fr hf (fun k e => HX4.out.1.lb.not5 k (.inl e))⟩; clear hf)
       | (go_at_call 4; refine (alive_calls _).mono ?_; rintro e w6 ⟨rfl, hw⟩; have HX6 := Aside0.mk (below_step HX5.out.1 hw); have hcv : (convert 22 9 (.slice A6 12 c6)).run Tryz.prog w6 = .ok (.string ⟨#[116, 104, 101, 32, 108, 97, 115, 116, 32, 111, 110, 101]⟩) w6 := (by rw [← str_last]; exact Kd.C_string Tryz.underlying22 Tryz.underlying5 Tryz.underlying9 (byt_open (HX5.out.2.below hw)).2.2); clear hw))
      try rw [Exit.noGoto_ret]
      go_ret
      exact ⟨rfl, HX6.out⟩
end Go.Proofs.YteadamkkbgnpeaaGreat.K
end OfK10
section OfK11
set_option linter.unusedVariables false
set_option linter.unusedSimpArgs false
namespace Go.Proofs.YteadamkkbgnpeaaGreat.K
open Go.RowKit Go.ChangeMaps YteadamkkbgnpeaaGreatW.PrintLast A B YteadamkkbgnpeaaGreatW.PrintWords
/-- Cells that are read, as a row. -/
theorem C_of_cells {k : IntKind} {w : World} {A : Option Addr} {n : Nat} {l : List Int} (hl : l.length = n) (hm : n ≤ maxLen) (hA : A = none → n = 0) (hc : ∀ a, A = some a → ∀ c, c < n → w.cell? (a.add c) = some (.int k (l.getD c 0))) : (Kd.int k).C w A l.length l := by
 subst hl
 refine ⟨rfl, hm, fun hn => ?_⟩
 cases A with
 | none => exact absurd (hA rfl) (by omega)
 | some a =>
  refine ⟨a, rfl, fun q x hq => ⟨[.int k x], rfl, rfl, fun z u hu => ?_⟩⟩
  have hql : q < l.length := by
   rcases Nat.lt_or_ge q l.length with h | h
   ·exact h
   ·rw [List.getElem?_eq_none h] at hq; cases hq
  match z, hu with
  | 0, hu =>
   cases hu
   have := hc a rfl q hql
   rw [List.getD_eq_getElem?_getD, hq] at this
   show w.cell? (a.add (q * 1 + 0)) = _
   rw [Nat.mul_one, Nat.add_zero]
   exact this
theorem top_calls (secret : List Int) (F : List (List Int)) (comes : List Int) (L0 n m : Nat) (A0 A1 A2 : Option Addr) (c0 c1 c2 : Nat) (w : World) (hL0 : secret.length = L0) (hc0 : L0 ≤ c0) (hC0 : (Kd.int .u8).C w A0 secret.length secret) (hn : F.length = n) (hF : FRows w A1 F) (hm : comes.length = m) (hC2 : (Kd.int .u16).C w A2 comes.length comes) (hu : ∀ x ∈ comes, 0 ≤ x ∧ x < 65536) :
  Calls Tryz.prog 3 #[.slice A0 L0 c0, .slice A1 n c1, .slice A2 m c2] w fun e w' => e = .returned (.bool true) ∧ Below w.heap.size w w' := by
 by_cases hg : L0 = 0 ∨ 60 < L0 ∨ 12 < n
 ·exact top_alive_calls L0 n m A0 A1 A2 c0 c1 c2 w hg
 ·exact top_main_calls secret F comes L0 n m A0 A1 A2 c0 c1 c2 w hL0 (by omega) hc0 hC0 hn (by omega) hF hm hC2 hu
end Go.Proofs.YteadamkkbgnpeaaGreat.K
end OfK11
