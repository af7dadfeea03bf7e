import Derived.Test.YtdnkclccjgcelaaWWords
import Derived.Test.YtdnkclccjgcelaaProg
import Derived.Lib.SlBytesConst
namespace Go.Proofs.YtdnkclccjgcelaaCut3
open Go.RowKit Go.Proofs.YtdnkclccjgcelaaW.PrintWords
section
variable {P : Program}
/-- 'xs[:n:n]' -/
theorem cut_to3 (t e : TypeId) (kh : IntKind) {i : TypeInfo} (ht : P.underlying t = some (.slice e)) (hi : P.info? e = some i) (A : Option Addr) (n c : Nat) (j : Int) (h0 : 0 ≤ j) (hm : j ≤ n) (hc : n ≤ c) :
    ∀ W : World, (Instr.slice t (.slice A n c) none (some (.int kh j)) (some (.int kh j))).run P W = .ok (.slice A j.toNat j.toNat) W := by
  intro W
  have hel : P.elem t = e := by simp [Program.elem, ht]
  have hu : P.underlying t = some (.slice (P.elem t)) := by rw [hel]; exact ht
  have ha : (A.map fun x => x.add 0) = A := by cases A <;> simp [Addr.add]
  rw [run_slice_hm W t A n c hu kh kh j j h0 (Int.le_refl _) (by omega), hel]
  simp [sizeOf, typeInfo, hi, sliced, Result.andThen, ha]
end
/-- '[]byte("..")' of a constant, and the row it is in -/
theorem conv22 (C : Array Value) (n c : Nat) (W : World) : (convert 22 22 (.slice (some ⟨W.heap.size, 0, none⟩) n c)).run Try.prog (W.alloc (.cells C 5)) = .ok (.slice (some ⟨W.heap.size, 0, none⟩) n c) (W.alloc (.cells C 5 (C.size, C.size + 1))) :=
  Lib.run_convert_bytes_const W 22 5 C n c Try.underlying22 Try.underlying5
/-- 'string(b)' of a row of the call's own, in whatever world that keeps it -/
theorem str_of_R {W : World} {base : Nat} {ok : Nat → Prop} {v : Value} {xs : List Int} (h : Kd.R (Kd.int .u8) 5 W base ok v xs) :
    ∀ W' : World, Below W.heap.size W W' → (convert 22 9 v).run Try.prog W' = .ok (.string (strOfNums xs)) W' := by
  intro W' hb
  obtain ⟨A, c, rfl⟩ := Kd.R_slice h
  obtain ⟨h1, h2, h3⟩ := Kd.R_reads' h
  exact Kd.C_string Try.underlying22 Try.underlying5 Try.underlying9 (Kd.C_below (by rw [h1] at *; exact h3) hb)
/-- 'string(b[:j])' of what came in -/
theorem conv_take {W : World} {A : Option Addr} {c : Nat} {xs : List Int} (h : Kd.C (Kd.int .u8) W A xs.length xs) (j : Int) (h0 : 0 ≤ j) (h1 : j ≤ (xs.length : Int)) :
    (convert 22 9 (.slice A j.toNat c)).run Try.prog W = .ok (.string (strOfNums (xs.take j.toNat))) W := by
  have hm : j.toNat ≤ xs.length := by omega
  have hC := Kd.C_take (m := j.toNat) h hm
  rw [List.length_take, Nat.min_eq_left hm] at hC
  exact Kd.C_string Try.underlying22 Try.underlying5 Try.underlying9 hC
/-- a new, marked row is read -/
theorem C_marked (W : World) (xs : List Int) (n : Nat × Nat) (hl : xs.length ≤ 9223372036854775807) : Kd.C (Kd.int .u8) (W.alloc (.cells (xs.map (Value.int .u8)).toArray 5 n)) (some ⟨W.heap.size, 0, none⟩) xs.length xs := by
  refine ⟨rfl, hl, fun _ => ⟨_, rfl, fun j p hj => ⟨[.int .u8 p], rfl, ?_, ?_⟩⟩⟩
  · rfl
  · intro i u hu
    match i, hu with
    | 0, hu =>
      simp at hu
      subst hu
      have : (W.alloc (.cells (xs.map (Value.int .u8)).toArray 5 n)).heap[W.heap.size]? = some (.cells (xs.map (Value.int .u8)).toArray 5 n) := heap_alloc_new W _
      have h1 : (Kd.int IntKind.u8).sz = 1 := rfl
      rw [h1, Nat.mul_one, Nat.add_zero, Go.Proofs.YtdnkclccjgcelaaW.PrintWords.add_plain]
      simp only [World.cell?, this]
      simp [hj]
end Go.Proofs.YtdnkclccjgcelaaCut3
