/- The contract of longlineref11.Peer's Hear: its two slices are appended to. -/
import Derived.Test.YtgefndjbcabioaaPX1
import Derived.Deep.AppendLies
set_option linter.unusedVariables false
set_option linter.unusedSimpArgs false
namespace Go.Proofs.Ytgefndjbcabioaa.PX
open Go.RowKit Go.Proofs.Ytgefndjbcabioaa.QPeer Go.Proofs.YtgefndjbcabioaaW.PrintWords Go.Proofs.YtgefndjbcabioaaW.PrintLast Go.Proofs.YtgefndjbcabioaaW.PrintMore

theorem info30 : (Try.prog.info? 30).map (fun i => (i.zero, i.size, i.bytes)) = some (some (.int .u32 0), 1, 4) := by kernel_rfl
theorem parts {i : Option TypeInfo} {z : Option Value} {s b : Nat} (h : i.map (fun i => (i.zero, i.size, i.bytes)) = some (z, s, b)) : ∃ j, i = some j ∧ j.zero = z ∧ j.size = s ∧ j.bytes = b := by
  obtain ⟨j, hj, hp⟩ := Option.map_eq_some_iff.1 h
  simp only [Prod.mk.injEq] at hp
  exact ⟨j, hj, hp.1, hp.2.1, hp.2.2⟩

/-- Of w's blocks those of other types than a peer's and its slices' are as they were. -/
def KT (w w' : World) : Prop := w.heap.size ≤ w'.heap.size ∧ ∀ (k : Nat) (cs : Array Value) (t : Nat), w.heap[k]? = some (.cells cs t (0, 0)) → t ≠ 61 → t ≠ 29 → t ≠ 30 → w'.heap[k]? = w.heap[k]?
theorem KT.refl (w : World) : KT w w := ⟨Nat.le_refl _, fun _ _ _ _ _ _ _ => rfl⟩
theorem KT.trans {a b c : World} (h : KT a b) (k : KT b c) : KT a c :=
  ⟨Nat.le_trans h.1 k.1, fun i cs t hi h1 h2 h3 => by have e := h.2 i cs t hi h1 h2 h3; exact (k.2 i cs t (e.trans hi) h1 h2 h3).trans e⟩
theorem KT.of_below {w w' : World} (h : Below w.heap.size w w') : KT w w' := ⟨h.size, fun k cs t hk _ _ _ => h.block k (blk_lt hk)⟩
theorem KT.below {w W W1 : World} (h : KT w W) (k : Below W.heap.size W W1) : KT w W1 := h.trans (KT.of_below k)
theorem KT.grown {w W W1 : World} {α : Type} {d : Kd α} {e base : Nat} {ok : Nat → Prop} {v : Value} {xs : List α} (h : KT w W) (hv : d.R e W base ok v xs) (he : e = 29 ∨ e = 30) (hg : W.grownBy W1 v.ownBlock) : KT w W1 :=
  h.trans ⟨hg.size, fun k cs t hk h1 h2 h3 => hg.block k (blk_lt hk) (Kd.R_ne hv hk (by rcases he with rfl | rfl <;> omega))⟩
theorem KT.set {w W : World} {g j : Nat} {cs : Array Value} {u : Value} (h : KT w W) (hb : W.heap[g]? = some (.cells cs 61 (0, 0))) : KT w (W.setCell ⟨g, j, none⟩ u) :=
  h.trans ⟨by simp [World.setCell], fun k cs' t hk h1 h2 h3 => Below.heap_setCell W _ u k (fun e => by
    have e' : k = g := e
    subst e'; rw [hb] at hk; injection hk with hk; injection hk with _ hk; exact h1 hk.symm)⟩

/-- A peer of longlineref11 at block g of W: its slices are its own, made since w0. -/
def IsY (w0 W : World) (g : Nat) (L A : List Int) (M : Int) : Prop := ∃ vL vA, W.heap[g]? = some (.cells #[vL, vA, .int .i64 M] 61 (0, 0)) ∧ w0.heap.size ≤ g ∧ Kd.R (Kd.int .u64) 29 W w0.heap.size (fun _ => True) vL L ∧ Kd.R (Kd.int .u32) 30 W w0.heap.size (fun _ => True) vA A
theorem IsY.below {w0 W W1 : World} {g : Nat} {L A : List Int} {M : Int} (h : IsY w0 W g L A M) (k : Below W.heap.size W W1) : IsY w0 W1 g L A M := by
  obtain ⟨vL, vA, h1, h2, h3, h4⟩ := h
  exact ⟨vL, vA, (k.block g (blk_lt h1)).trans h1, h2, Kd.R_below h3 k, Kd.R_below h4 k⟩
theorem IsY.keep {w0 W W1 : World} {g p : Nat} {L A : List Int} {M : Int} {cs : Array Value} {t : Nat} (h : IsY w0 W g L A M) (hp : W.heap[p]? = some (.cells cs t (0, 0))) (ht : t ≠ 61 ∧ t ≠ 29 ∧ t ≠ 30) (k : KeepBut W W1 p none) : IsY w0 W1 g L A M := by
  obtain ⟨vL, vA, h1, h2, h3, h4⟩ := h
  have hg : g ≠ p := by rintro rfl; rw [h1] at hp; injection hp with hp; injection hp with _ hp; exact ht.1 hp.symm
  refine ⟨vL, vA, (k.2 g (blk_lt h1) hg (by simp)).trans h1, h2, ?_, ?_⟩
  · exact Kd.R_mono (Kd.R_keep (Kd.R_types h3 hp (by intro q hq; simp [Kd.int, Kd.scalar] at hq; omega)) k (fun _ hk => hk.2)) (fun _ _ => trivial)
  · exact Kd.R_mono (Kd.R_keep (Kd.R_types h4 hp (by intro q hq; simp [Kd.int, Kd.scalar] at hq; omega)) k (fun _ hk => hk.2)) (fun _ _ => trivial)
theorem IsY.x61 {w0 W : World} {g : Nat} {L A : List Int} {M : Int} (h : IsY w0 W g L A M) : IsX61 W W g L A M := by
  obtain ⟨vL, vA, h1, h2, h3, h4⟩ := h
  obtain ⟨A0, c0, rfl, _, hc0⟩ := Kd.R_reads h3
  obtain ⟨A1, c1, rfl, _, hc1⟩ := Kd.R_reads h4
  exact ⟨A0, c0, A1, c1, h1, blk_lt h1, hc0, hc1⟩
theorem IsY.lt {w0 W : World} {g : Nat} {L A : List Int} {M : Int} (h : IsY w0 W g L A M) : g < W.heap.size := by
  obtain ⟨vL, vA, h1, _⟩ := h
  exact blk_lt h1

/-- In the midst of Hear: the peer's block as it was, the slices (vl, va) as they are to be. -/
structure YP (w0 w W : World) (g : Nat) (vL vA : Value) (M : Int) (vl : Value) (l : List Int) (va : Value) (a : List Int) : Prop where
  blk : W.heap[g]? = some (.cells #[vL, vA, .int .i64 M] 61 (0, 0))
  rL : Kd.R (Kd.int .u64) 29 W w0.heap.size (fun _ => True) vl l
  rA : Kd.R (Kd.int .u32) 30 W w0.heap.size (fun _ => True) va a
  bel : Below w0.heap.size w0 W
  kt : KT w W
section
variable {w0 w W W1 : World} {g : Nat} {vL vA : Value} {M : Int} {vl va v1 : Value} {l a : List Int}
theorem YP.alloc (h : YP w0 w W g vL vA M vl l va a) (o : Obj) : YP w0 w (W.alloc o) g vL vA M vl l va a :=
  ⟨(Below.heap_alloc W o g (blk_lt h.blk)).trans h.blk, Kd.R_alloc h.rL o, Kd.R_alloc h.rA o, below_alloc h.bel o, h.kt.below (below_alloc (Below.refl _ _) o)⟩
theorem YP.drew (h : YP w0 w W g vL vA M vl l va a) : YP w0 w W.drew g vL vA M vl l va a :=
  ⟨h.blk, Kd.R_drew h.rL, Kd.R_drew h.rA, below_drew h.bel, h.kt.below (below_drew (Below.refl _ _))⟩
theorem YP.appL {n : Int} (h : YP w0 w W g vL vA M vl l va a) (ho : W1.ownsRow w0.heap.size 29 1 v1 (l.length + 1) (encs (Value.int .u64) l ++ [.int .u64 n])) (hg : W.grownBy W1 vl.ownBlock) : YP w0 w W1 g vL vA M v1 (l ++ [n]) va a :=
  ⟨(hg.block g (blk_lt h.blk) (Kd.R_ne h.rL h.blk (by decide))).trans h.blk,
    Kd.R_of_own (by rw [List.length_append, encs_append]; exact ho) (fun _ _ => trivial),
    Kd.R_over h.rA h.rL (by intro q hq; simp [Kd.int, Kd.scalar] at hq; omega) hg,
    h.bel.grown hg h.bel.size (Kd.R_base h.rL), h.kt.grown h.rL (.inl rfl) hg⟩
theorem YP.appA {n : Int} (h : YP w0 w W g vL vA M vl l va a) (ho : W1.ownsRow w0.heap.size 30 1 v1 (a.length + 1) (encs (Value.int .u32) a ++ [.int .u32 n])) (hg : W.grownBy W1 va.ownBlock) : YP w0 w W1 g vL vA M vl l v1 (a ++ [n]) :=
  ⟨(hg.block g (blk_lt h.blk) (Kd.R_ne h.rA h.blk (by decide))).trans h.blk,
    Kd.R_over h.rL h.rA (by intro q hq; simp [Kd.int, Kd.scalar] at hq; omega) hg,
    Kd.R_of_own (by rw [List.length_append, encs_append]; exact ho) (fun _ _ => trivial),
    h.bel.grown hg h.bel.size (Kd.R_base h.rA), h.kt.grown h.rA (.inr rfl) hg⟩
theorem YP.set {j : Nat} {u vL' vA' : Value} {M' : Int} (h : YP w0 w W g vL vA M vl l va a) (hg : w0.heap.size ≤ g) (hs : (#[vL, vA, .int .i64 M] : Array Value).setIfInBounds j u = #[vL', vA', .int .i64 M']) : YP w0 w (W.setCell ⟨g, j, none⟩ u) g vL' vA' M' vl l va a :=
  ⟨by rw [← hs]; exact blk_set h.blk j u,
    Kd.R_set h.rL h.blk (by intro q hq; simp [Kd.int, Kd.scalar] at hq; omega) j u, Kd.R_set h.rA h.blk (by intro q hq; simp [Kd.int, Kd.scalar] at hq; omega) j u,
    below_set h.bel hg, h.kt.set h.blk⟩
theorem YP.isY (h : YP w0 w W g vl va M vl l va a) (hg : w0.heap.size ≤ g) : IsY w0 W g l a M := ⟨vl, va, h.blk, hg, h.rL, h.rA⟩
end

/-- What longlineref11's Hear comes to: what it tells, and the peer behind it. -/
def hearX (heard : Bool) (nw at_ : Int) (L A : List Int) (M n a : Int) : (Bool × Int) × (List Int × List Int × Int) :=
  if n = 0 ∨ 9223372036854775807 < n then ((false, 1), (L, A, M)) else if heard = true then ((false, 23), (L, A, M)) else if n < nw then ((false, 0), (L ++ [n], A ++ [a], M))
  else if 0 ≤ at_ then (if rd (A ++ [a]) at_ = a then ((false, 0), (L ++ [n], A ++ [a], M)) else ((true, 0), (L ++ [n], A ++ [a], wrap64 (M + 1)))) else ((true, 0), (L ++ [n], A ++ [a], M))

set_option maxHeartbeats 4000000 in
set_option maxRecDepth 100000 in
def PX_hear.T6 : Bool × List (List Nat × List Nat) := (true, [([], []), ([], []), ([], []), ([2], [2]), ([3], [3]), ([4], [4]), ([], []), ([6], [6]), ([5, 7], [5, 7]), ([], []), ([9], [9]), ([10], [10]), ([11], [11]), ([], []), ([13], [13]), ([12, 14, 8], [12, 14]), ([0, 0, 2, 3, 4, 5, 6, 7, 8, 12, 15], [0]), ([16, 0, 2, 3, 4, 5, 6, 7, 8, 12, 15], [16]), ([17, 8, 15, 0, 2, 3, 4, 5, 6, 7, 8, 12, 15], [8, 17]), ([1, 0, 1, 2, 3, 4, 5, 6, 7, 8, 9, 10, 11, 12, 13, 14, 15, 16, 17, 18], [1]), ([19, 0, 1, 2, 3, 4, 5, 6, 7, 8, 9, 10, 11, 12, 13, 14, 15, 16, 17, 18], [19]), ([20, 15, 18, 0, 1, 2, 3, 4, 5, 6, 7, 8, 9, 10, 11, 12, 13, 14, 15, 16, 17, 18], [15, 20])])
def PX_hear.B6 : List Nat := [0, 0, 0, 4, 12, 28, 0, 64, 252, 0, 512, 1536, 3584, 0, 8192, 32764, 65533, 131069, 262141, 524287, 1048575, 2097151]
theorem PX_hear.tab6 : rtab .any (opsOf Try.f26 6) = PX_hear.T6 := by kernel_rfl
theorem PX_hear.bits6 : waitsOk PX_hear.T6.2 PX_hear.B6 = true := by kernel_rfl

set_option maxHeartbeats 8000000 in
set_option maxRecDepth 100000 in
theorem hear_calls (k : Nat) (g : Nat) (L A : List Int) (M n a : Int) (h : Bool) (nw at_ : Int) (w0 w : World) (hI : IsY w0 w g L A M) (hB : Below w0.heap.size w0 w) (hl : A.length = L.length) (hm : L.length ≤ 1000)
    (hH : longlineref11_Peer_Heard.f k L A M n = some (h, M)) (hN : longlineref11_Peer_Newest.f k L A M = some (nw, at_, M)) (hat : at_ < L.length) :
    Calls Try.prog 26 #[.pointer (some ⟨g, 0, none⟩), .int .u64 n, .int .u32 a] w fun e w' => e = .returned (.tuple #[.bool (hearX h nw at_ L A M n a).1.1, .int .i64 (hearX h nw at_ L A M n a).1.2]) ∧ IsY w0 w' g (hearX h nw at_ L A M n a).2.1 (hearX h nw at_ L A M n a).2.2.1 (hearX h nw at_ L A M n a).2.2.2 ∧ Below w0.heap.size w0 w' ∧ KT w w' := by
  obtain ⟨j29, hi29, hz29, hs29, hb29⟩ := parts info29
  obtain ⟨j30, hi30, hz30, hs30, hb30⟩ := parts info30
  have HLEN := Aside0.mk (show A.length = L.length ∧ L.length ≤ 1000 from ⟨hl, hm⟩)
  have HI := Aside0.mk hI
  have HB := Aside0.mk hB
  have HN := Aside0.mk hN
  have HH := Aside0.mk hH
  have HAT := Aside0.mk hat
  clear hI hB hl hm hH hN hat
  generalize hr : hearX h nw at_ L A M n a = r
  have HR := Aside0.mk hr
  clear hr
  by_cases c1 : n = 0
  · subst c1
    have hr := HR.out
    rw [hearX, if_pos (Or.inl rfl)] at hr
    subst hr
    clear HR
    go_enter Try.func26, Try.ntmps26
    go_wp2
    go_ret2
    exact ⟨rfl, HI.out, HB.out, KT.refl _⟩
  have c1b : (n == 0) = false := beq_eq_false_iff_ne.mpr c1
  by_cases c2 : 9223372036854775807 < n
  · have hr := HR.out
    rw [hearX, if_pos (Or.inr c2)] at hr
    subst hr
    clear HR
    have c2b : decide (9223372036854775807 < n) = true := decide_eq_true c2
    clear c1 c2
    go_enter Try.func26, Try.ntmps26
    go_wp2
    go_ret2
    exact ⟨rfl, HI.out, HB.out, KT.refl _⟩
  have c2b : decide (9223372036854775807 < n) = false := decide_eq_false c2
  have hr := HR.out
  rw [hearX, if_neg (fun h => h.elim c1 c2)] at hr
  clear HR c1 c2
  cases h with
  | true =>
    rw [if_pos rfl] at hr
    subst hr
    go_enter Try.func26, Try.ntmps26
    go_wp2_with (go_at_call 28; refine (heard_calls k g L A M n true M w w HI.out.x61 (Below.refl _ _) HH.out).mono ?_; rintro e w1 ⟨rfl, _, hb1, _⟩; have HB1 := Aside0.mk hb1; clear hb1)
    go_ret2
    exact ⟨rfl, HI.out.below HB1.out, HB.out.trans (HB1.out.mono HB.out.size), KT.of_below HB1.out⟩
  | false =>
  rw [if_neg (by decide)] at hr
  have HR := Aside0.mk hr
  clear hr
  go_enter Try.func26, Try.ntmps26
  go_wp2_with (first
    | (go_at_call 28; refine (heard_calls k g L A M n false M w w HI.out.x61 (Below.refl _ _) HH.out).mono ?_; rintro e w1 ⟨rfl, _, hb1, _⟩; have HB1 := Aside0.mk hb1; clear hb1)
    | (go_at_call 27; refine (newest_calls k g L A M nw at_ M _ _ (HI.out.below HB1.out).x61 (Below.refl _ _) HN.out).mono ?_; rintro e w2 ⟨rfl, _, hb2, _⟩; have HB2 := Aside0.mk hb2; clear hb2))
  have HB3 := Aside0.mk (HB1.out.trans (HB2.out.mono HB1.out.size))
  have HP0 : Aside0 (∃ vL vA, YP w0 w w2 g vL vA M vL L vA A ∧ w0.heap.size ≤ g) := ⟨by
    obtain ⟨vL, vA, h1, h2, h3, h4⟩ := HI.out.below HB3.out
    exact ⟨vL, vA, ⟨h1, h3, h4, HB.out.trans (HB3.out.mono HB.out.size), KT.of_below HB3.out⟩, h2⟩⟩
  obtain ⟨vL, vA, hp0, hge⟩ := HP0.out
  have HP0 := Aside0.mk hp0.drew
  have HGE := Aside0.mk hge
  clear hp0 hge

  refine start_ (n := 22) (S := fun w' => w'.cell? ⟨g, 0, none⟩ = some vL ∧ w'.cell? ⟨g, 1, none⟩ = some vA) (ds := [18, 21]) #[false, false, false, false, false, false, false, false, false, false, false, false, false, false, false, false, false, false, false, false, false, false] (by kernel_rfl) rfl rfl ⟨(blk_cell HP0.out.blk 0), (blk_cell HP0.out.blk 1)⟩ (fun hHeld => ?_)
  refine with_tabW PX_hear.tab6 PX_hear.bits6 (fun HT_ HW_ => ?_)
  generalize w2.drew = x0 at HP0 hHeld ⊢
  refine pure_ (i := 0) (N := some 24) (v := ?_) (a' := ?_) #[true, false, false, false, false, false, false, false, false, false, false, false, false, false, false, false, false, false, false, false, false, false] rfl rfl (any_of HT_.out (by kernel_rfl)) (fun _ _ _ h => h) (Or.inl ⟨by rfl, ?_⟩) ?_ ?_
  rotate_left
  · intro w'
    go_simp
    with_reducible rfl
  rotate_left
  · simp only [Act.put, List.setIfInBounds_toArray, List.set_cons_zero, List.set_cons_succ, i64_w, i32_w]
    rfl
  refine pure_ (i := 1) (N := some 25) (v := ?_) (a' := ?_) #[true, true, false, false, false, false, false, false, false, false, false, false, false, false, false, false, false, false, false, false, false, false] rfl rfl (any_of HT_.out (by kernel_rfl)) (fun _ _ _ h => h) (Or.inl ⟨by rfl, ?_⟩) ?_ ?_
  rotate_left
  · intro w'
    go_simp
    with_reducible rfl
  rotate_left
  · simp only [Act.put, List.setIfInBounds_toArray, List.set_cons_zero, List.set_cons_succ, i64_w, i32_w]
    rfl
  refine pure_ (i := 2) (N := some 26) (v := ?_) (a' := ?_) #[true, true, true, false, false, false, false, false, false, false, false, false, false, false, false, false, false, false, false, false, false, false] rfl rfl (any_of HT_.out (by kernel_rfl)) (fun _ _ _ h => h) (Or.inl ⟨by rfl, ?_⟩) ?_ ?_
  rotate_left
  · intro w'
    go_simp
    with_reducible rfl
  rotate_left
  · simp only [Act.put, List.setIfInBounds_toArray, List.set_cons_zero, List.set_cons_succ, i64_w, i32_w]
    rfl
  refine pure_ (i := 3) (N := some 27) (v := ?_) (a' := ?_) #[true, true, true, true, false, false, false, false, false, false, false, false, false, false, false, false, false, false, false, false, false, false] rfl rfl (any_of HT_.out (by kernel_rfl)) (fun _ _ _ h => h) (Or.inl ⟨by rfl, ?_⟩) ?_ ?_
  rotate_left
  · intro w'
    go_simp
    with_reducible rfl
  rotate_left
  · simp only [Act.put, List.setIfInBounds_toArray, List.set_cons_zero, List.set_cons_succ, i64_w, i32_w]
    rfl
  refine pure_ (i := 4) (N := some 28) (v := ?_) (a' := ?_) #[true, true, true, true, true, false, false, false, false, false, false, false, false, false, false, false, false, false, false, false, false, false] rfl rfl (any_of HT_.out (by kernel_rfl)) (fun _ _ _ h => h) (Or.inl ⟨by rfl, ?_⟩) ?_ ?_
  rotate_left
  · intro w'
    go_simp
    with_reducible rfl
  rotate_left
  · simp only [Act.put, List.setIfInBounds_toArray, List.set_cons_zero, List.set_cons_succ, i64_w, i32_w]
    rfl
  refine pure_ (i := 6) (N := some 30) (v := ?_) (a' := ?_) #[true, true, true, true, true, false, true, false, false, false, false, false, false, false, false, false, false, false, false, false, false, false] rfl rfl (any_of HT_.out (by kernel_rfl)) (fun _ _ _ h => h) (Or.inl ⟨by rfl, ?_⟩) ?_ ?_
  rotate_left
  · intro w'
    go_simp
    with_reducible rfl
  rotate_left
  · simp only [Act.put, List.setIfInBounds_toArray, List.set_cons_zero, List.set_cons_succ, i64_w, i32_w]
    rfl
  refine pure_ (i := 9) (N := some 33) (v := ?_) (a' := ?_) #[true, true, true, true, true, false, true, false, false, true, false, false, false, false, false, false, false, false, false, false, false, false] rfl rfl (any_of HT_.out (by kernel_rfl)) (fun _ _ _ h => h) (Or.inl ⟨by rfl, ?_⟩) ?_ ?_
  rotate_left
  · intro w'
    go_simp
    with_reducible rfl
  rotate_left
  · simp only [Act.put, List.setIfInBounds_toArray, List.set_cons_zero, List.set_cons_succ, i64_w, i32_w]
    rfl
  refine pure_ (i := 10) (N := some 34) (v := ?_) (a' := ?_) #[true, true, true, true, true, false, true, false, false, true, true, false, false, false, false, false, false, false, false, false, false, false] rfl rfl (any_of HT_.out (by kernel_rfl)) (fun _ _ _ h => h) (Or.inl ⟨by rfl, ?_⟩) ?_ ?_
  rotate_left
  · intro w'
    go_simp
    with_reducible rfl
  rotate_left
  · simp only [Act.put, List.setIfInBounds_toArray, List.set_cons_zero, List.set_cons_succ, i64_w, i32_w]
    rfl
  refine pure_ (i := 11) (N := some 35) (v := ?_) (a' := ?_) #[true, true, true, true, true, false, true, false, false, true, true, true, false, false, false, false, false, false, false, false, false, false] rfl rfl (any_of HT_.out (by kernel_rfl)) (fun _ _ _ h => h) (Or.inl ⟨by rfl, ?_⟩) ?_ ?_
  rotate_left
  · intro w'
    go_simp
    with_reducible rfl
  rotate_left
  · simp only [Act.put, List.setIfInBounds_toArray, List.set_cons_zero, List.set_cons_succ, i64_w, i32_w]
    rfl
  refine pure_ (i := 13) (N := some 37) (v := ?_) (a' := ?_) #[true, true, true, true, true, false, true, false, false, true, true, true, false, true, false, false, false, false, false, false, false, false] rfl rfl (any_of HT_.out (by kernel_rfl)) (fun _ _ _ h => h) (Or.inl ⟨by rfl, ?_⟩) ?_ ?_
  rotate_left
  · intro w'
    go_simp
    with_reducible rfl
  rotate_left
  · simp only [Act.put, List.setIfInBounds_toArray, List.set_cons_zero, List.set_cons_succ, i64_w, i32_w]
    rfl
  refine take_ (i := 5) (N := some 29) (v := ?_) (a' := ?_) #[true, true, true, true, true, true, true, false, false, true, true, true, false, true, false, false, false, false, false, false, false, false] rfl rfl (take_ofW HT_.out HW_.out (by kernel_rfl)) (fun _ _ _ h => h) (Or.inl ⟨by rfl, ?_⟩) hHeld ?_ ?_
  rotate_left
  · rintro w' ⟨s0, s1⟩
    go_simp
    with_reducible rfl
  rotate_left
  · simp only [Act.put, List.setIfInBounds_toArray, List.set_cons_zero, List.set_cons_succ, i64_w, i32_w]
    rfl
  refine take_ (i := 12) (N := some 36) (v := ?_) (a' := ?_) #[true, true, true, true, true, true, true, false, false, true, true, true, true, true, false, false, false, false, false, false, false, false] rfl rfl (take_ofW HT_.out HW_.out (by kernel_rfl)) (fun _ _ _ h => h) (Or.inl ⟨by rfl, ?_⟩) hHeld ?_ ?_
  rotate_left
  · rintro w' ⟨s0, s1⟩
    go_simp
    with_reducible rfl
  rotate_left
  · simp only [Act.put, List.setIfInBounds_toArray, List.set_cons_zero, List.set_cons_succ, i64_w, i32_w]
    rfl
  refine join_ (σ := Value × (Nat × Nat) × Nat) 7 #[true, true, true, true, true, true, true, true, true, true, true, true, true, true, true, false, false, false, false, false, false, false] (fun s => [(31, s.1), (32, .slice (some ⟨s.2.1.1, 0, none⟩) (L.length + 1) s.2.1.2), (38, .slice (some ⟨s.2.2, 0, none⟩) 1 1)]) (fun s w' => YP w0 w w' g vL vA M (.slice (some ⟨s.2.1.1, 0, none⟩) (L.length + 1) s.2.1.2) (L ++ [n]) vA A ∧ w'.heap[s.2.2]? = some (.cells #[.int .u32 a] 30 (0, 0))) ?_ ?_
  rotate_left
  · intro hCont
    refine two_ (i := 7) (j := 14) (Ni := some 31) (Nj := some 38) #[true, true, true, true, true, true, true, true, false, true, true, true, true, true, false, false, false, false, false, false, false, false] #[true, true, true, true, true, true, true, false, false, true, true, true, true, true, true, false, false, false, false, false, false, false] rfl rfl rfl rfl (two_of HT_.out (by kernel_rfl)) (by decide) (by decide) (fun K hK => ?_) (fun K hK => ?_)
    · skip
      refine value_ (w1 := World.alloc x0 (Obj.cells #[.int .u64 n] 29 (0, 0))) (v := .slice (some ⟨x0.heap.size, 0, none⟩) 1 1) (by rfl) rfl ?_ ?_
      · go_simp
      have HP1 := Aside0.mk (HP0.out.alloc (Obj.cells #[.int .u64 n] 29 (0, 0)))
      have HX7 := Aside0.mk (heap_alloc_new x0 (Obj.cells #[.int .u64 n] 29 (0, 0)))
      generalize x0.heap.size = b7 at HX7 ⊢
      generalize World.alloc x0 (Obj.cells #[.int .u64 n] 29 (0, 0)) = x1 at HP1 HX7 ⊢
      refine hK.out _ _ ⟨(blk_cell HP1.out.blk 0), (blk_cell HP1.out.blk 1)⟩ (fun hHeld => ?_)
      clear hK K
      refine norm_ (a' := ?_) ?_ ?_
      rotate_left
      · show Act.put _ (some 31) _ = _
        simp only [Act.put, List.setIfInBounds_toArray, List.set_cons_zero, List.set_cons_succ, i64_w, i32_w]
        rfl
      refine two_ (i := 8) (j := 14) (Ni := some 32) (Nj := some 38) #[true, true, true, true, true, true, true, true, true, true, true, true, true, true, false, false, false, false, false, false, false, false] #[true, true, true, true, true, true, true, true, false, true, true, true, true, true, true, false, false, false, false, false, false, false] rfl rfl rfl rfl (two_of HT_.out (by kernel_rfl)) (by decide) (by decide) (fun K hK => ?_) (fun K hK => ?_)
      · skip
        refine step_append_lies _ rfl (.tmp 29) (.tmp 31) 25 rfl w0.heap.size 29 j29 (.int .u64 0) 1 8 Try.underlying25 hi29 hz29 hs29 hb29 rfl (by decide) vL L.length (encs (Value.int .u64) L) (by rfl) (Kd.own_of_R HP1.out.rL) ⟨b7, 0, none⟩ 1 1 [.int .u64 n] (by rfl) rfl (World.news_of_block HX7.out) (fun u hu => by rw [List.mem_singleton.1 hu]; rfl) (by decide) (by have := HLEN.out; unfold maxLen; omega) (by have := HLEN.out; omega) HP1.out.bel.size _ rfl ?_
        intro g8 c8 x2 ho8 hg8 _ _
        have HP2 := Aside0.mk (HP1.out.appL ho8 hg8)
        clear ho8 hg8
        refine hK.out _ _ ⟨(blk_cell HP2.out.blk 0), (blk_cell HP2.out.blk 1)⟩ (fun hHeld => ?_)
        clear hK K
        refine norm_ (a' := ?_) ?_ ?_
        rotate_left
        · show Act.put _ (some 32) _ = _
          simp only [Act.put, List.setIfInBounds_toArray, List.set_cons_zero, List.set_cons_succ, i64_w, i32_w]
          rfl
        refine one_ (i := 14) (N := some 38) #[true, true, true, true, true, true, true, true, true, true, true, true, true, true, true, false, false, false, false, false, false, false] rfl rfl (one_of HT_.out (by kernel_rfl)) (by decide) (fun K hK => ?_)
        refine value_ (w1 := World.alloc x2 (Obj.cells #[.int .u32 a] 30 (0, 0))) (v := .slice (some ⟨x2.heap.size, 0, none⟩) 1 1) (by rfl) rfl ?_ ?_
        · go_simp
        have HP3 := Aside0.mk (HP2.out.alloc (Obj.cells #[.int .u32 a] 30 (0, 0)))
        have HX14 := Aside0.mk (heap_alloc_new x2 (Obj.cells #[.int .u32 a] 30 (0, 0)))
        generalize x2.heap.size = b14 at HX14 ⊢
        generalize World.alloc x2 (Obj.cells #[.int .u32 a] 30 (0, 0)) = x3 at HP3 HX14 ⊢
        refine hK.out _ _ ⟨(blk_cell HP3.out.blk 0), (blk_cell HP3.out.blk 1)⟩ (fun hHeld => ?_)
        clear hK K
        refine norm_ (a' := ?_) ?_ ?_
        rotate_left
        · show Act.put _ (some 38) _ = _
          simp only [Act.put, List.setIfInBounds_toArray, List.set_cons_zero, List.set_cons_succ, i64_w, i32_w]
          rfl
        exact norm_ (by simp only [putAll, Act.put, List.setIfInBounds_toArray, List.set_cons_zero, List.set_cons_succ]) (hCont (.slice (some ⟨b7, 0, none⟩) 1 1, (g8, c8), b14) _ ⟨HP3.out, HX14.out⟩)
      · skip
        refine value_ (w1 := World.alloc x1 (Obj.cells #[.int .u32 a] 30 (0, 0))) (v := .slice (some ⟨x1.heap.size, 0, none⟩) 1 1) (by rfl) rfl ?_ ?_
        · go_simp
        have HP2 := Aside0.mk (HP1.out.alloc (Obj.cells #[.int .u32 a] 30 (0, 0)))
        have HX14 := Aside0.mk (heap_alloc_new x1 (Obj.cells #[.int .u32 a] 30 (0, 0)))
        replace HX7 := Aside0.mk ((Below.heap_alloc x1 (Obj.cells #[.int .u32 a] 30 (0, 0)) _ (blk_lt HX7.out)).trans HX7.out)
        generalize x1.heap.size = b14 at HX14 ⊢
        generalize World.alloc x1 (Obj.cells #[.int .u32 a] 30 (0, 0)) = x2 at HP2 HX7 HX14 ⊢
        refine hK.out _ _ ⟨(blk_cell HP2.out.blk 0), (blk_cell HP2.out.blk 1)⟩ (fun hHeld => ?_)
        clear hK K
        refine norm_ (a' := ?_) ?_ ?_
        rotate_left
        · show Act.put _ (some 38) _ = _
          simp only [Act.put, List.setIfInBounds_toArray, List.set_cons_zero, List.set_cons_succ, i64_w, i32_w]
          rfl
        refine one_ (i := 8) (N := some 32) #[true, true, true, true, true, true, true, true, true, true, true, true, true, true, true, false, false, false, false, false, false, false] rfl rfl (one_of HT_.out (by kernel_rfl)) (by decide) (fun K hK => ?_)
        refine step_append_lies _ rfl (.tmp 29) (.tmp 31) 25 rfl w0.heap.size 29 j29 (.int .u64 0) 1 8 Try.underlying25 hi29 hz29 hs29 hb29 rfl (by decide) vL L.length (encs (Value.int .u64) L) (by rfl) (Kd.own_of_R HP2.out.rL) ⟨b7, 0, none⟩ 1 1 [.int .u64 n] (by rfl) rfl (World.news_of_block HX7.out) (fun u hu => by rw [List.mem_singleton.1 hu]; rfl) (by decide) (by have := HLEN.out; unfold maxLen; omega) (by have := HLEN.out; omega) HP2.out.bel.size _ rfl ?_
        intro g8 c8 x3 ho8 hg8 _ _
        have HP3 := Aside0.mk (HP2.out.appL ho8 hg8)
        replace HX14 := Aside0.mk ((hg8.block _ (blk_lt HX14.out) (Kd.R_ne HP2.out.rL HX14.out (by decide))).trans HX14.out)
        clear ho8 hg8
        refine hK.out _ _ ⟨(blk_cell HP3.out.blk 0), (blk_cell HP3.out.blk 1)⟩ (fun hHeld => ?_)
        clear hK K
        refine norm_ (a' := ?_) ?_ ?_
        rotate_left
        · show Act.put _ (some 32) _ = _
          simp only [Act.put, List.setIfInBounds_toArray, List.set_cons_zero, List.set_cons_succ, i64_w, i32_w]
          rfl
        exact norm_ (by simp only [putAll, Act.put, List.setIfInBounds_toArray, List.set_cons_zero, List.set_cons_succ]) (hCont (.slice (some ⟨b7, 0, none⟩) 1 1, (g8, c8), b14) _ ⟨HP3.out, HX14.out⟩)
    · skip
      refine value_ (w1 := World.alloc x0 (Obj.cells #[.int .u32 a] 30 (0, 0))) (v := .slice (some ⟨x0.heap.size, 0, none⟩) 1 1) (by rfl) rfl ?_ ?_
      · go_simp
      have HP1 := Aside0.mk (HP0.out.alloc (Obj.cells #[.int .u32 a] 30 (0, 0)))
      have HX14 := Aside0.mk (heap_alloc_new x0 (Obj.cells #[.int .u32 a] 30 (0, 0)))
      generalize x0.heap.size = b14 at HX14 ⊢
      generalize World.alloc x0 (Obj.cells #[.int .u32 a] 30 (0, 0)) = x1 at HP1 HX14 ⊢
      refine hK.out _ _ ⟨(blk_cell HP1.out.blk 0), (blk_cell HP1.out.blk 1)⟩ (fun hHeld => ?_)
      clear hK K
      refine norm_ (a' := ?_) ?_ ?_
      rotate_left
      · show Act.put _ (some 38) _ = _
        simp only [Act.put, List.setIfInBounds_toArray, List.set_cons_zero, List.set_cons_succ, i64_w, i32_w]
        rfl
      refine one_ (i := 7) (N := some 31) #[true, true, true, true, true, true, true, true, false, true, true, true, true, true, true, false, false, false, false, false, false, false] rfl rfl (one_of HT_.out (by kernel_rfl)) (by decide) (fun K hK => ?_)
      refine value_ (w1 := World.alloc x1 (Obj.cells #[.int .u64 n] 29 (0, 0))) (v := .slice (some ⟨x1.heap.size, 0, none⟩) 1 1) (by rfl) rfl ?_ ?_
      · go_simp
      have HP2 := Aside0.mk (HP1.out.alloc (Obj.cells #[.int .u64 n] 29 (0, 0)))
      have HX7 := Aside0.mk (heap_alloc_new x1 (Obj.cells #[.int .u64 n] 29 (0, 0)))
      replace HX14 := Aside0.mk ((Below.heap_alloc x1 (Obj.cells #[.int .u64 n] 29 (0, 0)) _ (blk_lt HX14.out)).trans HX14.out)
      generalize x1.heap.size = b7 at HX7 ⊢
      generalize World.alloc x1 (Obj.cells #[.int .u64 n] 29 (0, 0)) = x2 at HP2 HX7 HX14 ⊢
      refine hK.out _ _ ⟨(blk_cell HP2.out.blk 0), (blk_cell HP2.out.blk 1)⟩ (fun hHeld => ?_)
      clear hK K
      refine norm_ (a' := ?_) ?_ ?_
      rotate_left
      · show Act.put _ (some 31) _ = _
        simp only [Act.put, List.setIfInBounds_toArray, List.set_cons_zero, List.set_cons_succ, i64_w, i32_w]
        rfl
      refine one_ (i := 8) (N := some 32) #[true, true, true, true, true, true, true, true, true, true, true, true, true, true, true, false, false, false, false, false, false, false] rfl rfl (one_of HT_.out (by kernel_rfl)) (by decide) (fun K hK => ?_)
      refine step_append_lies _ rfl (.tmp 29) (.tmp 31) 25 rfl w0.heap.size 29 j29 (.int .u64 0) 1 8 Try.underlying25 hi29 hz29 hs29 hb29 rfl (by decide) vL L.length (encs (Value.int .u64) L) (by rfl) (Kd.own_of_R HP2.out.rL) ⟨b7, 0, none⟩ 1 1 [.int .u64 n] (by rfl) rfl (World.news_of_block HX7.out) (fun u hu => by rw [List.mem_singleton.1 hu]; rfl) (by decide) (by have := HLEN.out; unfold maxLen; omega) (by have := HLEN.out; omega) HP2.out.bel.size _ rfl ?_
      intro g8 c8 x3 ho8 hg8 _ _
      have HP3 := Aside0.mk (HP2.out.appL ho8 hg8)
      replace HX14 := Aside0.mk ((hg8.block _ (blk_lt HX14.out) (Kd.R_ne HP2.out.rL HX14.out (by decide))).trans HX14.out)
      clear ho8 hg8
      refine hK.out _ _ ⟨(blk_cell HP3.out.blk 0), (blk_cell HP3.out.blk 1)⟩ (fun hHeld => ?_)
      clear hK K
      refine norm_ (a' := ?_) ?_ ?_
      rotate_left
      · show Act.put _ (some 32) _ = _
        simp only [Act.put, List.setIfInBounds_toArray, List.set_cons_zero, List.set_cons_succ, i64_w, i32_w]
        rfl
      exact norm_ (by simp only [putAll, Act.put, List.setIfInBounds_toArray, List.set_cons_zero, List.set_cons_succ]) (hCont (.slice (some ⟨b7, 0, none⟩) 1 1, (g8, c8), b14) _ ⟨HP3.out, HX14.out⟩)
  rintro ⟨x31, ⟨g8, c8⟩, b14⟩ x3 ⟨HPa, HXa⟩
  have HP3 := Aside0.mk HPa
  have HX14 := Aside0.mk HXa
  clear HPa HXa
  have hHeld : x3.cell? ⟨g, 0, none⟩ = some vL ∧ x3.cell? ⟨g, 1, none⟩ = some vA := ⟨blk_cell HP3.out.blk 0, blk_cell HP3.out.blk 1⟩
  refine norm_ (a' := ?_) ?_ ?_
  rotate_left
  · simp only [putAll, Act.put, List.setIfInBounds_toArray, List.set_cons_zero, List.set_cons_succ]
    rfl
  refine one_ (i := 15) (N := some 39) #[true, true, true, true, true, true, true, true, true, true, true, true, true, true, true, true, false, false, false, false, false, false] rfl rfl (one_of HT_.out (by kernel_rfl)) (by decide) (fun K hK => ?_)
  refine step_append_lies _ rfl (.tmp 36) (.tmp 38) 59 rfl w0.heap.size 30 j30 (.int .u32 0) 1 4 Try.underlying59 hi30 hz30 hs30 hb30 rfl (by decide) vA A.length (encs (Value.int .u32) A) (by rfl) (Kd.own_of_R HP3.out.rA) ⟨b14, 0, none⟩ 1 1 [.int .u32 a] (by rfl) rfl (World.news_of_block HX14.out) (fun u hu => by rw [List.mem_singleton.1 hu]; rfl) (by decide) (by have := HLEN.out; unfold maxLen; omega) (by have := HLEN.out; omega) HP3.out.bel.size _ rfl ?_
  intro g15 c15 x4 ho15 hg15 _ _
  have HP4 := Aside0.mk (HP3.out.appA ho15 hg15)
  clear ho15 hg15
  refine hK.out _ _ ⟨(blk_cell HP4.out.blk 0), (blk_cell HP4.out.blk 1)⟩ (fun hHeld => ?_)
  clear hK K
  refine norm_ (a' := ?_) ?_ ?_
  rotate_left
  · show Act.put _ (some 39) _ = _
    simp only [Act.put, List.setIfInBounds_toArray, List.set_cons_zero, List.set_cons_succ, i64_w, i32_w]
    rfl
  refine pure_ (i := 16) (N := some 40) (v := ?_) (a' := ?_) #[true, true, true, true, true, true, true, true, true, true, true, true, true, true, true, true, true, false, false, false, false, false] rfl rfl (any_of HT_.out (by kernel_rfl)) (fun _ _ _ h => h) (Or.inl ⟨by rfl, ?_⟩) ?_ ?_
  rotate_left
  · intro w'
    go_simp
    with_reducible rfl
  rotate_left
  · simp only [Act.put, List.setIfInBounds_toArray, List.set_cons_zero, List.set_cons_succ, i64_w, i32_w]
    rfl
  refine pure_ (i := 17) (N := some 41) (v := ?_) (a' := ?_) #[true, true, true, true, true, true, true, true, true, true, true, true, true, true, true, true, true, true, false, false, false, false] rfl rfl (any_of HT_.out (by kernel_rfl)) (fun _ _ _ h => h) (Or.inl ⟨by rfl, ?_⟩) ?_ ?_
  rotate_left
  · intro w'
    go_simp
    with_reducible rfl
  rotate_left
  · simp only [Act.put, List.setIfInBounds_toArray, List.set_cons_zero, List.set_cons_succ, i64_w, i32_w]
    rfl
  refine last_ (i := 18) (N := none) #[true, true, true, true, true, true, true, true, true, true, true, true, true, true, true, true, true, true, true, false, false, false] rfl rfl (one_of HT_.out (by kernel_rfl)) (by decide) (fun K hK => ?_)
  have hcs18 := blk_cell HP4.out.blk 0
  have hfs18 := blk_frozen HP4.out.blk 0
  refine skip_ (w1 := World.setCell x4 ⟨g, 0, none⟩ (.slice (some ⟨g8, 0, none⟩) (L.length + 1) c8)) (by rfl) rfl ?_ ?_
  · go_simp
  have HP5 := Aside0.mk (HP4.out.set (j := 0) (u := (.slice (some ⟨g8, 0, none⟩) (L.length + 1) c8)) HGE.out (show _ = (#[(.slice (some ⟨g8, 0, none⟩) (L.length + 1) c8), vA, .int .i64 M] : Array Value) from rfl))
  generalize World.setCell x4 ⟨g, 0, none⟩ (.slice (some ⟨g8, 0, none⟩) (L.length + 1) c8) = x5 at HP5 ⊢
  refine hK.out _ _ ?_
  clear hK K
  refine pure_ (i := 19) (N := some 42) (v := ?_) (a' := ?_) #[true, true, true, true, true, true, true, true, true, true, true, true, true, true, true, true, true, true, true, true, false, false] rfl rfl (any_of HT_.out (by kernel_rfl)) (fun _ _ _ h => h) (Or.inl ⟨by rfl, ?_⟩) ?_ ?_
  rotate_left
  · intro w'
    go_simp
    with_reducible rfl
  rotate_left
  · simp only [Act.put, List.setIfInBounds_toArray, List.set_cons_zero, List.set_cons_succ, i64_w, i32_w]
    rfl
  refine pure_ (i := 20) (N := some 43) (v := ?_) (a' := ?_) #[true, true, true, true, true, true, true, true, true, true, true, true, true, true, true, true, true, true, true, true, true, false] rfl rfl (any_of HT_.out (by kernel_rfl)) (fun _ _ _ h => h) (Or.inl ⟨by rfl, ?_⟩) ?_ ?_
  rotate_left
  · intro w'
    go_simp
    with_reducible rfl
  rotate_left
  · simp only [Act.put, List.setIfInBounds_toArray, List.set_cons_zero, List.set_cons_succ, i64_w, i32_w]
    rfl
  refine last_ (i := 21) (N := none) #[true, true, true, true, true, true, true, true, true, true, true, true, true, true, true, true, true, true, true, true, true, true] rfl rfl (one_of HT_.out (by kernel_rfl)) (by decide) (fun K hK => ?_)
  have hcs21 := blk_cell HP5.out.blk 1
  have hfs21 := blk_frozen HP5.out.blk 1
  refine skip_ (w1 := World.setCell x5 ⟨g, 1, none⟩ (.slice (some ⟨g15, 0, none⟩) (A.length + 1) c15)) (by rfl) rfl ?_ ?_
  · go_simp
  have HP6 := Aside0.mk (HP5.out.set (j := 1) (u := (.slice (some ⟨g15, 0, none⟩) (A.length + 1) c15)) HGE.out (show _ = (#[(.slice (some ⟨g8, 0, none⟩) (L.length + 1) c8), (.slice (some ⟨g15, 0, none⟩) (A.length + 1) c15), .int .i64 M] : Array Value) from rfl))
  generalize World.setCell x5 ⟨g, 1, none⟩ (.slice (some ⟨g15, 0, none⟩) (A.length + 1) c15) = x6 at HP6 ⊢
  refine hK.out _ _ ?_
  clear hK K
  refine done_ (done_of HT_.out (by kernel_rfl)) ?_

  have HY := Aside0.mk (HP6.out.isY HGE.out)
  have HB6 := Aside0.mk HP6.out.bel
  have HK6 := Aside0.mk HP6.out.kt
  clear hHeld
  by_cases c3 : n < nw
  · have hr := HR.out
    rw [if_pos c3] at hr
    subst hr
    clear HR
    have c3b : decide (n < nw) = true := decide_eq_true c3
    clear c3
    go_wp2
    go_ret2
    exact ⟨rfl, HY.out, HB6.out, HK6.out⟩
  have c3b : decide (n < nw) = false := decide_eq_false c3
  have hr := HR.out
  rw [if_neg c3] at hr
  clear HR c3
  by_cases c4 : 0 ≤ at_
  · rw [if_pos c4] at hr
    have c4b : decide (0 ≤ at_) = true := decide_eq_true c4
    have c4c : decide (at_ < 0) = false := decide_eq_false (by omega)
    have hlt : at_ < ((A ++ [a]).length : Int) := by rw [List.length_append, List.length_singleton]; have := HAT.out; have := HLEN.out; omega
    have HRA : Kd.R (Kd.int .u32) 30 x6 w0.heap.size (fun _ => True) (.slice (some ⟨g15, 0, none⟩) (A ++ [a]).length c15) (A ++ [a]) := by rw [List.length_append, List.length_singleton]; exact HP6.out.rA
    obtain ⟨hx, hxf⟩ := Kd.R_cell (0 : Int) HRA at_ c4 hlt
    replace hx : x6.cell? ⟨g15, at_.toNat, none⟩ = some (.int .u32 (rd (A ++ [a]) at_)) := hx
    clear HRA
    have hcA := blk_cell HP6.out.blk 1
    have hcM := blk_cell HP6.out.blk 2
    have hfM := blk_frozen HP6.out.blk 2
    have c4d : at_ < ((A.length : Nat) : Int) + 1 := by have := HAT.out; have := HLEN.out; omega
    replace c4d := eq_true c4d
    have c4f := eq_true c4
    clear c4 hlt hxf
    by_cases c5 : rd (A ++ [a]) at_ = a
    · rw [if_pos c5] at hr
      subst hr
      have c5b : (rd (A ++ [a]) at_ != a) = false := bne_eq_false_iff_eq.mpr c5
      have c5c : (rd (A ++ [a]) at_ == a) = true := beq_iff_eq.mpr c5
      clear c5
      go_wp2
      go_ret2
      exact ⟨rfl, HY.out, HB6.out, HK6.out⟩
    · rw [if_neg c5] at hr
      subst hr
      have c5b : (rd (A ++ [a]) at_ != a) = true := bne_iff_ne.mpr c5
      have c5c : (rd (A ++ [a]) at_ == a) = false := beq_eq_false_iff_ne.mpr c5
      clear c5
      have hgg : g ≠ g15 := fun e => Kd.R_ne HP6.out.rA HP6.out.blk (by decide) (by rw [e]; rfl)
      have hx2 : (x6.setCell ⟨g, 2, none⟩ (.int .i64 (wrap64 (M + 1)))).cell? ⟨g15, at_.toNat, none⟩ = some (.int .u32 (rd (A ++ [a]) at_)) := (World.cell?_setCell_far _ _ _ _ hgg).trans hx
      have hcA2 : (x6.setCell ⟨g, 2, none⟩ (.int .i64 (wrap64 (M + 1)))).cell? ⟨g, 1, none⟩ = some (.slice (some ⟨g15, 0, none⟩) (A.length + 1) c15) := blk_cell (blk_set HP6.out.blk 2 (.int .i64 (wrap64 (M + 1)))) 1
      clear hgg
      go_wp2
      go_ret2
      have hfin := HP6.out.set (j := 2) (u := .int .i64 (wrap64 (M + 1))) HGE.out (show _ = (#[_, _, .int .i64 (wrap64 (M + 1))] : Array Value) from rfl)
      exact ⟨rfl, hfin.isY HGE.out, hfin.bel, hfin.kt⟩
  · rw [if_neg c4] at hr
    subst hr
    have c4b : decide (0 ≤ at_) = false := decide_eq_false c4
    have c4c : decide (at_ < 0) = true := decide_eq_true (by omega)
    clear c4
    go_wp2
    go_ret2
    exact ⟨rfl, HY.out, HB6.out, HK6.out⟩
end Go.Proofs.Ytgefndjbcabioaa.PX
