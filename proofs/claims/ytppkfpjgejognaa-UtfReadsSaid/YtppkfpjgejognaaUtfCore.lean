/- Reading points out of bytes, as a machine over lists of numbers: plain Lean, no program in sight. -/
import Derived.Lib.RuneBytes
namespace Go.Proofs.Ytppkfpjgejognaa.UtfCore

/-- What waits: the point so far, how many bytes are to come, how many came, and between what the next one must be. -/
abbrev St := Option (Int × Int × Int × Int × Int)

/-- A beginning. -/
def beg (c : Int) : St :=
  if 194 ≤ c ∧ c ≤ 223 then some (c % 32, 1, 1, 128, 191)
  else if 224 ≤ c ∧ c ≤ 239 then some (c % 16, 2, 1, if c = 224 then 160 else 128, if c = 237 then 159 else 191)
  else if 240 ≤ c ∧ c ≤ 244 then some (c % 8, 3, 1, if c = 240 then 144 else 128, if c = 244 then 143 else 191)
  else none

def idle (c : Int) : List Int × St :=
  if c < 128 then ([c], none) else match beg c with
    | some s => ([], some s)
    | none => ([65533], none)

def feed : St → Int → List Int × St
  | none, c => idle c
  | some (p, n, m, lo, hi), c => if c < lo ∨ hi < c then (65533 :: (idle c).1, (idle c).2) else if n = 1 then ([p * 64 + c % 64], none) else ([], some (p * 64 + c % 64, n - 1, m + 1, 128, 191))

def run : St → List Int → List Int × St
  | s, [] => ([], s)
  | s, c :: l => ((feed s c).1 ++ (run (feed s c).2 l).1, (run (feed s c).2 l).2)

def came : St → Int
  | none => 0
  | some (_, _, m, _, _) => m

/-- All that bytes are read as. -/
def pts (l : List Int) : List Int := (run none l).1 ++ (match (run none l).2 with | none => [] | some _ => [65533])

/-- What may wait. -/
def Fine : St → Prop
  | none => True
  | some (p, n, m, lo, hi) =>
    (n = 1 ∧ m = 1 ∧ 2 ≤ p ∧ p < 32 ∧ lo = 128 ∧ hi = 191) ∨
    (n = 2 ∧ m = 1 ∧ 0 ≤ p ∧ p < 16 ∧ 128 ≤ lo ∧ hi ≤ 191 ∧ (p = 0 → lo = 160) ∧ (p = 13 → hi = 159)) ∨
    (n = 1 ∧ m = 2 ∧ 32 ≤ p ∧ p < 1024 ∧ (p < 864 ∨ 895 < p) ∧ lo = 128 ∧ hi = 191) ∨
    (n = 3 ∧ m = 1 ∧ 0 ≤ p ∧ p ≤ 4 ∧ 128 ≤ lo ∧ hi ≤ 191 ∧ (p = 0 → lo = 144) ∧ (p = 4 → hi = 143)) ∨
    (n = 2 ∧ m = 2 ∧ 16 ≤ p ∧ p ≤ 271 ∧ lo = 128 ∧ hi = 191) ∨
    (n = 1 ∧ m = 3 ∧ 1024 ≤ p ∧ p ≤ 17407 ∧ lo = 128 ∧ hi = 191)

def isPt (p : Int) : Prop := 0 ≤ p ∧ p ≤ 1114111 ∧ (p < 55296 ∨ 57343 < p)

theorem good_beg (c : Int) : Fine (beg c) := by
  unfold beg
  split
  · exact .inl ⟨rfl, rfl, by omega, by omega, rfl, rfl⟩
  · split
    · exact .inr (.inl ⟨rfl, rfl, by omega, by omega, by split <;> omega, by split <;> omega, fun h => if_pos (by omega), fun h => if_pos (by omega)⟩)
    · split
      · exact .inr (.inr (.inr (.inl ⟨rfl, rfl, by omega, by omega, by split <;> omega, by split <;> omega, fun h => if_pos (by omega), fun h => if_pos (by omega)⟩)))
      · trivial

theorem beg_came {c : Int} {s : Int × Int × Int × Int × Int} (hb : beg c = some s) : came (some s) = 1 := by
  unfold beg at hb
  split at hb
  · cases hb; rfl
  · split at hb
    · cases hb; rfl
    · split at hb
      · cases hb; rfl
      · cases hb

theorem isPt_bad : isPt 65533 := ⟨by omega, by omega, by omega⟩

theorem idle_facts (c : Int) (h0 : 0 ≤ c) : Fine (idle c).2 ∧ (∀ p ∈ (idle c).1, isPt p) ∧ ((idle c).1.length : Int) + came (idle c).2 = 1 := by
  unfold idle
  split
  · exact ⟨trivial, fun p hp => by rw [List.mem_singleton.1 hp]; exact ⟨h0, by omega, by omega⟩, rfl⟩
  · have hg := good_beg c
    cases hb : beg c with
    | none => exact ⟨trivial, fun p hp => by rw [List.mem_singleton.1 hp]; exact isPt_bad, rfl⟩
    | some s =>
      rw [hb] at hg
      have := beg_came hb
      refine ⟨hg, ?_, ?_⟩
      · intro p hp; simp at hp
      · dsimp only; rw [this]; rfl

theorem came_eq (p n m lo hi : Int) : came (some (p, n, m, lo, hi)) = m := rfl
theorem came_none : came none = 0 := rfl

/-- One byte: what waits is as it may be, what is told are points, and of them and of what waits there are at least one, and one more at most than there were. -/
theorem step_facts (s : St) (c : Int) (h : Fine s) (h0 : 0 ≤ c) (h1 : c ≤ 255) : Fine (feed s c).2 ∧ (∀ p ∈ (feed s c).1, isPt p) ∧ ((feed s c).1.length : Int) + came (feed s c).2 ≤ 1 + came s ∧ 1 ≤ ((feed s c).1.length : Int) + came (feed s c).2 := by
  have hi0 := idle_facts c h0
  cases s with
  | none => exact ⟨hi0.1, hi0.2.1, by rw [came_none]; show _ + came (idle c).2 ≤ _; have := hi0.2.2; simp only [feed]; omega, by simp only [feed]; omega⟩
  | some s =>
    obtain ⟨p, n, m, lo, hi⟩ := s
    have hm : 1 ≤ m := by rcases h with h | h | h | h | h | h <;> omega
    rw [came_eq]
    by_cases cb : c < lo ∨ hi < c
    · have e : feed (some (p, n, m, lo, hi)) c = (65533 :: (idle c).1, (idle c).2) := by simp only [feed]; rw [if_pos cb]
      rw [e]
      refine ⟨hi0.1, ?_, ?_, ?_⟩
      · intro q hq
        rcases List.mem_cons.1 hq with rfl | hq
        · exact isPt_bad
        · exact hi0.2.1 q hq
      · have := hi0.2.2; simp only [List.length_cons]; omega
      · have := hi0.2.2; simp only [List.length_cons]; omega
    · by_cases cn : n = 1
      · have e : feed (some (p, n, m, lo, hi)) c = ([p * 64 + c % 64], none) := by simp only [feed]; rw [if_neg cb, if_pos cn]
        rw [e, came_none]
        refine ⟨trivial, ?_, by simp only [List.length_singleton]; omega, by simp only [List.length_singleton]; omega⟩
        intro q hq
        rw [List.mem_singleton.1 hq]
        unfold isPt
        rcases h with h | h | h | h | h | h <;> omega
      · have e : feed (some (p, n, m, lo, hi)) c = ([], some (p * 64 + c % 64, n - 1, m + 1, 128, 191)) := by simp only [feed]; rw [if_neg cb, if_neg cn]
        rw [e, came_eq]
        refine ⟨?_, ?_, by simp only [List.length_nil]; omega, by simp only [List.length_nil]; omega⟩
        · rcases h with h | h | h | h | h | h
          · omega
          · exact .inr (.inr (.inl ⟨by omega, by omega, by omega, by omega, by omega, rfl, rfl⟩))
          · omega
          · exact .inr (.inr (.inr (.inr (.inl ⟨by omega, by omega, by omega, by omega, rfl, rfl⟩))))
          · exact .inr (.inr (.inr (.inr (.inr ⟨by omega, by omega, by omega, by omega, rfl, rfl⟩))))
          · omega
        · intro q hq; simp at hq

theorem came_nonneg (s : St) (h : Fine s) : 0 ≤ came s := by
  cases s with
  | none => exact Int.le_refl _
  | some z => obtain ⟨p, n, m, lo, hi⟩ := z; rw [came_eq]; rcases h with h | h | h | h | h | h <;> omega

theorem run_facts (l : List Int) : ∀ s, Fine s → (∀ c ∈ l, 0 ≤ c ∧ c ≤ 255) → Fine (run s l).2 ∧ (∀ p ∈ (run s l).1, isPt p) ∧ ((run s l).1.length : Int) + came (run s l).2 ≤ l.length + came s ∧ (1 ≤ (l.length : Int) + came s → 1 ≤ ((run s l).1.length : Int) + came (run s l).2) := by
  induction l with
  | nil => exact fun s h _ => ⟨h, fun p hp => by simp [run] at hp, by simp [run], by simp [run]⟩
  | cons c l ih =>
    intro s h hl
    have hc := hl c (by simp)
    have hs := step_facts s c h hc.1 hc.2
    have hr := ih _ hs.1 (fun x hx => hl x (by simp [hx]))
    simp only [run]
    refine ⟨hr.1, ?_, ?_, fun _ => ?_⟩
    · intro p hp
      rcases List.mem_append.1 hp with hp | hp
      · exact hs.2.1 p hp
      · exact hr.2.1 p hp
    · simp only [List.length_append, List.length_cons]; omega
    · simp only [List.length_append]
      have h2 := came_nonneg _ hs.1
      by_cases e : 1 ≤ (l.length : Int) + came (feed s c).2
      · have := hr.2.2.2 e; omega
      · have h3 := hs.2.2.2
        have := came_nonneg _ hr.1
        omega

theorem run_append (a b : List Int) : ∀ s, run s (a ++ b) = ((run s a).1 ++ (run (run s a).2 b).1, (run (run s a).2 b).2) := by
  induction a with
  | nil => intro s; simp [run]
  | cons c a ih => intro s; simp only [List.cons_append, run, ih, List.append_assoc]

theorem came_pos (s : St) (h : Fine s) : (s = none ∧ came s = 0) ∨ (∃ z, s = some z) ∧ 1 ≤ came s := by
  cases s with
  | none => exact .inl ⟨rfl, rfl⟩
  | some z => obtain ⟨p, n, m, lo, hi⟩ := z; exact .inr ⟨⟨_, rfl⟩, by rw [came_eq]; rcases h with h | h | h | h | h | h <;> omega⟩

theorem pts_facts (l : List Int) (hl : ∀ c ∈ l, 0 ≤ c ∧ c ≤ 255) : (∀ p ∈ pts l, isPt p) ∧ (pts l).length ≤ l.length ∧ (l ≠ [] → 0 < (pts l).length) := by
  have h := run_facts l none trivial hl
  have hc := came_pos _ h.1
  unfold pts
  have h4 := h.2.2.2
  have h3 := h.2.2.1
  rw [came_none, Int.add_zero] at h3 h4
  rcases hc with ⟨e, e0⟩ | ⟨⟨z, e⟩, e1⟩
  · rw [e] at h3 h4 ⊢
    simp only [List.append_nil]
    rw [came_none] at h3 h4
    refine ⟨h.2.1, by omega, fun hne => ?_⟩
    have : 0 < l.length := List.length_pos_iff.2 hne
    omega
  · rw [e] at h3 e1 ⊢
    simp only [List.length_append, List.length_singleton]
    refine ⟨?_, by omega, fun _ => by omega⟩
    intro p hp
    rcases List.mem_append.1 hp with hp | hp
    · exact h.2.1 p hp
    · rw [List.mem_singleton.1 hp]; exact ⟨by omega, by omega, by omega⟩

/-- A point's bytes. -/
def enc (p : Int) : List Int :=
  if p < 128 then [p] else if p < 2048 then [192 + p / 64, 128 + p % 64] else if p < 65536 then [224 + p / 4096, 128 + p / 64 % 64, 128 + p % 64]
  else [240 + p / 262144, 128 + p / 4096 % 64, 128 + p / 64 % 64, 128 + p % 64]

theorem enc_bytes (p : Int) (h : isPt p) : ∀ c ∈ enc p, 0 ≤ c ∧ c ≤ 255 := by
  unfold isPt at h
  unfold enc
  intro c hc
  split at hc
  · simp at hc; omega
  · split at hc
    · simp at hc; omega
    · split at hc
      · simp at hc; omega
      · simp at hc; omega

theorem idle_2 (c : Int) (h0 : 194 ≤ c) (h1 : c ≤ 223) : idle c = ([], some (c % 32, 1, 1, 128, 191)) := by
  unfold idle beg; rw [if_neg (by omega), if_pos ⟨h0, h1⟩]
theorem idle_3 (c : Int) (h0 : 224 ≤ c) (h1 : c ≤ 239) : idle c = ([], some (c % 16, 2, 1, if c = 224 then 160 else 128, if c = 237 then 159 else 191)) := by
  unfold idle beg; rw [if_neg (by omega), if_neg (by omega), if_pos ⟨h0, h1⟩]
theorem idle_4 (c : Int) (h0 : 240 ≤ c) (h1 : c ≤ 244) : idle c = ([], some (c % 8, 3, 1, if c = 240 then 144 else 128, if c = 244 then 143 else 191)) := by
  unfold idle beg; rw [if_neg (by omega), if_neg (by omega), if_neg (by omega), if_pos ⟨h0, h1⟩]
theorem step_last (p m lo hi c : Int) (h0 : lo ≤ c) (h1 : c ≤ hi) : feed (some (p, 1, m, lo, hi)) c = ([p * 64 + c % 64], none) := by
  simp only [feed]; rw [if_neg (by omega), if_pos trivial]
theorem step_more (p n m lo hi c : Int) (h0 : lo ≤ c) (h1 : c ≤ hi) (hn : n ≠ 1) : feed (some (p, n, m, lo, hi)) c = ([], some (p * 64 + c % 64, n - 1, m + 1, 128, 191)) := by
  simp only [feed]; rw [if_neg (by omega), if_neg hn]

theorem run_cons (s : St) (c : Int) (l : List Int) : run s (c :: l) = ((feed s c).1 ++ (run (feed s c).2 l).1, (run (feed s c).2 l).2) := rfl
theorem step_none (c : Int) : feed none c = idle c := rfl
theorem idle_1 (c : Int) (h : c < 128) : idle c = ([c], none) := by unfold idle; rw [if_pos h]

theorem run_enc (p : Int) (h : isPt p) (l : List Int) : run none (enc p ++ l) = (p :: (run none l).1, (run none l).2) := by
  unfold isPt at h
  unfold enc
  split
  · rename_i c
    rw [List.cons_append, List.nil_append, run_cons, step_none, idle_1 p c]; rfl
  · split
    · rw [List.cons_append, List.cons_append, List.nil_append, run_cons, step_none, idle_2 _ (by omega) (by omega)]
      dsimp only
      rw [run_cons, step_last _ _ _ _ _ (by omega) (by omega)]
      dsimp only
      have : (192 + p / 64) % 32 * 64 + (128 + p % 64) % 64 = p := by omega
      rw [this]; rfl
    · split
      · rw [List.cons_append, List.cons_append, List.cons_append, List.nil_append, run_cons, step_none, idle_3 _ (by omega) (by omega)]
        dsimp only
        rw [run_cons, step_more _ _ _ _ _ _ (by split <;> omega) (by split <;> omega) (by omega)]
        dsimp only
        rw [run_cons, show (2 : Int) - 1 = 1 from rfl, step_last _ _ _ _ _ (by omega) (by omega)]
        dsimp only
        have : ((224 + p / 4096) % 16 * 64 + (128 + p / 64 % 64) % 64) * 64 + (128 + p % 64) % 64 = p := by omega
        rw [this]; rfl
      · rw [List.cons_append, List.cons_append, List.cons_append, List.cons_append, List.nil_append, run_cons, step_none, idle_4 _ (by omega) (by omega)]
        dsimp only
        rw [run_cons, step_more _ _ _ _ _ _ (by split <;> omega) (by split <;> omega) (by omega)]
        dsimp only
        rw [run_cons, step_more _ _ _ _ _ _ (by omega) (by omega) (by omega)]
        dsimp only
        rw [run_cons, show (3 : Int) - 1 - 1 = 1 from rfl, step_last _ _ _ _ _ (by omega) (by omega)]
        dsimp only
        have : (((240 + p / 262144) % 8 * 64 + (128 + p / 4096 % 64) % 64) * 64 + (128 + p / 64 % 64) % 64) * 64 + (128 + p % 64) % 64 = p := by omega
        rw [this]; rfl

theorem run_encs (l : List Int) (h : ∀ p ∈ l, isPt p) : run none (l.flatMap enc) = (l, none) := by
  induction l with
  | nil => rfl
  | cons p l ih => rw [List.flatMap_cons, run_enc p (h p (by simp)), ih (fun q hq => h q (by simp [hq]))]

theorem pts_encs (l : List Int) (h : ∀ p ∈ l, isPt p) : pts (l.flatMap enc) = l := by
  unfold pts; rw [run_encs l h]; simp

/-- Bytes below 128 are read as themselves. -/
theorem run_plain (l : List Int) (h : ∀ c ∈ l, c < 128) : run none l = (l, none) := by
  induction l with
  | nil => rfl
  | cons c l ih =>
    rw [run_cons, step_none, idle_1 c (h c (by simp))]
    dsimp only
    rw [ih (fun q hq => h q (by simp [hq]))]; rfl
theorem pts_plain (l : List Int) (h : ∀ c ∈ l, c < 128) : pts l = l := by
  unfold pts; rw [run_plain l h]; simp
/-- Behind one that is none of them, too. -/
theorem pts_front (f : Int) (l : List Int) (hf : 128 ≤ f) (hne : l ≠ []) (h : ∀ c ∈ l, 0 ≤ c ∧ c < 128) : pts (f :: l) = 65533 :: l := by
  obtain ⟨c, l, rfl⟩ := List.exists_cons_of_ne_nil hne
  have hc := h c (by simp)
  have hl := run_plain (c :: l) (fun q hq => (h q hq).2)
  have hg := good_beg f
  have : run none (f :: c :: l) = (65533 :: c :: l, none) := by
    rw [run_cons, step_none]
    unfold idle; rw [if_neg (by omega)]
    cases hb : beg f with
    | none => dsimp only; rw [hl]; rfl
    | some z =>
      obtain ⟨p, n, m, lo, hi⟩ := z
      rw [hb] at hg
      have hlo : 128 ≤ lo := by rcases hg with h | h | h | h | h | h <;> omega
      dsimp only
      rw [run_cons, step_none] at hl
      have e : feed (some (p, n, m, lo, hi)) c = (65533 :: (idle c).1, (idle c).2) := by simp only [feed]; rw [if_pos (Or.inl (by omega))]
      rw [run_cons, e]
      dsimp only
      simp only [Prod.mk.injEq] at hl
      rw [List.nil_append, List.cons_append, hl.1, hl.2]
  unfold pts; rw [this]; simp

theorem run_plain_len (l : List Int) : ∀ s, ((run s l).1.length : Int) ≤ 2 * l.length := by
  induction l with
  | nil => intro s; simp [run]
  | cons c l ih =>
    intro s
    have h := ih (feed s c).2
    have hi : (idle c).1.length ≤ 1 := by unfold idle; split; simp; split <;> simp
    have hs : (feed s c).1.length ≤ 2 := by
      cases s with
      | none => simp only [feed]; omega
      | some z => obtain ⟨p, n, m, lo, hi⟩ := z; simp only [feed]; split; simp; omega; split <;> simp
    simp only [run, List.length_append, List.length_cons]; omega
end Go.Proofs.Ytppkfpjgejognaa.UtfCore
