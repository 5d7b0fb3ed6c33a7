/- A range over a function whose iterator keeps cells of its own. -/
import Derived.RangeFuncFrom
import Derived.Test.YteikdcobpfohcaaGreatDoorMAa
namespace Go.Proofs.YteikdcobpfohcaaGreatDoor
open Go.RowKit

/-- What is said of a world bears new blocks, and turns of those blocks. -/
def Bears {β : Type} (own : Nat → Prop) (J : β → World → Prop) : Prop := ∀ s A B, J s A → Fr own A B → J s B

/-- The iterator's contract: it may turn the blocks of 'own'; a round that goes on keeps Kp. -/
def SeqOwn {α : Type} (F : Fence) (n : Nat) (P : Program) (g : Nat) (lb : Array Value) (encs : α → Array Value) (own : Nat → Prop) (Kp : World → World → Prop) (S Sp : List α → Prop) (N : Nat) (w : World) : Prop :=
  ∀ (l : Nat) (J Jx : List α → World → Prop) (W : World), Below w.heap.size w W → Bears own J → Bears own Jx →
    (∀ pre x W1, J pre W1 → pre.length < N → YieldAt F (n - 1) P l (encs x) W1 fun e W' =>
      (e = .returned (.bool true) ∧ J (pre ++ [x]) W' ∧ Kp W1 W') ∨ (e = .returned (.bool false) ∧ Jx (pre ++ [x]) W')) →
    J [] W →
    CallsIn F n P g (#[.func (.yield l) #[] #[]] ++ lb) W fun e W' => (∃ v, e = .returned v) ∧ ((∃ xs, S xs ∧ J xs W') ∨ (∃ pre, Sp pre ∧ Jx pre W'))

/-- A round leaves the loop's two blocks alone. -/
structure RgIn (n : Nat) (W W' : World) : Prop where
  de : W'.heap[n]? = W.heap[n]?
  lo : W'.heap[n + 1]? = W.heap[n + 1]?
theorem RgIn.refl (n : Nat) (W : World) : RgIn n W W := ⟨rfl, rfl⟩
theorem RgIn.trans {n : Nat} {A B C : World} (h : RgIn n A B) (k : RgIn n B C) : RgIn n A C := ⟨k.de.trans h.de, k.lo.trans h.lo⟩
theorem RgIn.fr {n : Nat} {S : Nat → Prop} {W W' : World} (h : Fr S W W') (hn : n + 1 < W.heap.size) (h1 : ¬ S n) (h2 : ¬ S (n + 1)) : RgIn n W W' := ⟨h.block n (by omega) h1, h.block (n + 1) hn h2⟩
/-- How a round's body may be left. -/
def rgPost {α : Type} (n : Nat) (Kp : World → World → Prop) (I : List α → World → Prop) (Ix : Code → List α → World → Prop) (xs : List α) (W : World) : Exit → Act → World → Prop
  | .normal, _, W' => RgIn n W W' ∧ Kp W W' ∧ I xs W'
  | .ret, _, W' => RgIn n W W' ∧ Ix .ret xs W'
  | .exit id, _, W' => RgIn n W W' ∧ Ix (.exit id) xs W'
  | .goto t, _, W' => RgIn n W W' ∧ Ix (.goto t) xs W'
  | .panic _, _, _ => False
  | .outgrown, _, _ => False

theorem Fr.putObj {S : Nat → Prop} {a b : World} (h : Fr S a b) (r : Nat) (hr : r < a.heap.size → S r) (o : Obj) : Fr S a (b.putObj r o) :=
  ⟨h.os, h.tape, h.output, by rw [World.putObj_size]; exact h.size, fun k hk hs => (World.putObj_heap_other (fun e => hs (by rw [e]; exact hr (by omega)))).trans (h.block k hk hs)⟩

variable {F : Fence} {n : Nat} {P : Program}

/-- The statement 'for .. := range g', where g keeps cells of its own. -/
theorem wpIn_range_own {α : Type} {g : Operand} {ps : Array Tmp} {assign body : Code} {Q : Exit → Act → World → Prop} {a : Act} {w : World}
    (hro : F.round = none) (h1 : 1 ≤ n) {gf : Nat} {lb : Array Value} (hg : a.eval g = .func (.func gf) #[] lb) (hFg : F.fn gf) (eg : ∀ args w, (callFunc gf args).run P w = .ok (.enter gf args) w)
    {encs : α → Array Value} {own : Nat → Prop} {Kp : World → World → Prop} {S Sp : List α → Prop} {N : Nat} (hseq : SeqOwn F (n - 1) P gf lb encs own Kp S Sp N w) (hown : ∀ k, own k → k < w.heap.size)
    (hKt : ∀ {A B C : World}, Kp A B → Kp B C → Kp A C) (hKb : ∀ (W : World) (o : Obj), w.heap.size + 1 < W.heap.size → Kp W (W.putObj (w.heap.size + 1) o)) (hps : ∀ x, (encs x).size = ps.size)
    (I : List α → World → Prop) (Ix : Code → List α → World → Prop) (hI : Bears (fun k => own k ∨ k = w.heap.size ∨ k = w.heap.size + 1) I) (hIx : ∀ c, Bears (fun k => own k ∨ k = w.heap.size ∨ k = w.heap.size + 1) (Ix c)) (h0 : I [] w)
    (A : List α → α → Act → World → Prop) (hA : ∀ pre x a' W o, w.heap.size + 1 < W.heap.size → A pre x a' W → A pre x a' (W.putObj (w.heap.size + 1) o))
    (hassign : ∀ (pre : List α) (x : α) (W : World) (K : Act → World → Prop), w.heap.size + 1 < W.heap.size → I pre W → (∀ a' W', A pre x a' W' → RgIn w.heap.size W W' → W.heap.size ≤ W'.heap.size → Kp W W' → K a' W') →
      assign.wpIn (F.inRound (w.heap.size + 1)) (n - 1 - 1) P (Exit.then K (fun _ _ _ => False)) { tmps := (ps.zip (encs x)).foldl (fun t (p, v) => t.setIfInBounds p v) a.tmps, defers := [] } W)
    (hbody : ∀ (pre : List α) (x : α) (a' : Act) (W : World), w.heap.size + 1 < W.heap.size → A pre x a' W → pre.length < N → body.wpIn (F.inRound (w.heap.size + 1)) (n - 1 - 1) P (rgPost w.heap.size Kp I Ix (pre ++ [x]) W) a' W)
    (hdone : ∀ (xs : List α) (W : World), S xs → I xs W → W.heap[w.heap.size]? = some (.deferred (some [])) → Q .normal { a with defers := { target := .collected w.heap.size, args := #[] } :: a.defers } W)
    (hstop : ∀ (c : Code) (pre : List α) (W : World), Sp pre → Ix c pre W → W.heap[w.heap.size]? = some (.deferred (some [])) → c.wpIn F n P Q { a with defers := { target := .collected w.heap.size, args := #[] } :: a.defers } W) :
    (Code.rangeFunc g ps assign body).wpIn F n P Q a w := by
  refine wpIn_rangeFunc ?_
  intro fn hfn
  rw [hro]
  obtain ⟨rec, hrec⟩ : ∃ rec : LoopState → Option Code → Loop, rec = fun st pe => { state := st, pending := pe, fn, tmps := a.tmps, params := ps, assign, body, defers := w.heap.size } := ⟨_, rfl⟩
  obtain ⟨N0, hN0⟩ : ∃ N0, N0 = w.heap.size := ⟨_, rfl⟩
  obtain ⟨W1, hW1⟩ : ∃ W1, (w.alloc (.deferred (some []))).alloc (.loop (rec .ready none)) = W1 := ⟨_, rfl⟩
  have hL1 : W1.heap[w.heap.size + 1]? = some (.loop (rec .ready none)) := by
    rw [← hW1]; have := World.alloc_heap_new (w.alloc (.deferred (some []))) (.loop (rec .ready none)); rwa [World.size_alloc] at this
  have hK1 : W1.heap[w.heap.size]? = some (.deferred (some [])) := by
    rw [← hW1]; exact (Below.heap_alloc _ _ _ (by simp)).trans (World.alloc_heap_new w _)
  have hf1 : ∀ {S : Nat → Prop}, Fr S w W1 := by intro S; rw [← hW1]; exact ((Fr.refl S w).alloc _).alloc _
  have hI1 : I [] W1 := hI _ _ _ h0 hf1
  have hb1 : Below w.heap.size w W1 := by rw [← hW1]; exact ((Below.refl _ w).alloc (Nat.le_refl _) _).alloc (by simp) _
  -- a turn of the loop's record
  have hturn : ∀ {β : Type} {J : β → World → Prop} (_ : Bears (fun k => own k ∨ k = w.heap.size ∨ k = w.heap.size + 1) J) (s : β) (W : World) (o : Obj), J s W → J s (W.putObj (w.heap.size + 1) o) :=
    fun hJ s W o hs => hJ s _ _ hs ((Fr.refl _ W).putObj _ (fun _ => .inr (.inr rfl)) o)
  have hkeep : ∀ {X Y : World} {k : Nat} {o : Obj}, Fr own X Y → w.heap.size ≤ k → X.heap[k]? = some o → Y.heap[k]? = some o :=
    fun hf hk h => (hf.block _ (lt_of_block h) (fun e => by have := hown _ e; omega)).trans h
  refine ⟨w.heap.size + 1, [{ target := .collected w.heap.size, args := #[] }], W1, { target := .fn (.func gf) lb, args := #[.func (.yield (w.heap.size + 1)) #[] #[]] }, W1, gf,
    #[.func (.yield (w.heap.size + 1)) #[] #[]] ++ lb, W1, ?_, ?_, ?_, ?_, fun _ => h1, ?_⟩
  · rw [← hW1, hrec]; exact run_enterLoop_outer _ _ _ _ _
  · simp only [resolve, hg]
    simp [go_sem]
  · intro f' hf'; simp [Target.leads] at hf'; subst hf'; exact hFg
  · simp [invoke, go_sem, eg]
  · refine (hseq (w.heap.size + 1)
      (fun pre W => I pre W ∧ W.heap[w.heap.size + 1]? = some (.loop (rec .ready none)) ∧ W.heap[w.heap.size]? = some (.deferred (some [])))
      (fun pre W => ∃ c, Ix c pre W ∧ W.heap[w.heap.size + 1]? = some (.loop (rec .done (some c))) ∧ W.heap[w.heap.size]? = some (.deferred (some [])))
      W1 hb1
      (fun s X Y hs hf => ⟨hI s X Y hs.1 (hf.mono (fun _ _ e => .inl e)), hkeep hf (by omega) hs.2.1, hkeep hf (Nat.le_refl _) hs.2.2⟩)
      (fun s X Y hs hf => by
        obtain ⟨c, hc, hl, hk⟩ := hs
        exact ⟨c, hIx c s X Y hc (hf.mono (fun _ _ e => .inl e)), hkeep hf (by omega) hl, hkeep hf (Nat.le_refl _) hk⟩)
      ?_ ⟨hI1, hL1, hK1⟩).mono ?_
    · rintro pre x W ⟨hi, hl, hk⟩ hlen
      have hlt : w.heap.size + 1 < W.heap.size := lt_of_block hl
      have hy := run_yield (P := P) (args := encs x) hl (by rw [hrec]; exact hps x)
      rw [hrec] at hy
      refine ⟨fn, _, assign, body, hy, roundIn_of_wpIn hfn (hassign pre x W _ hlt hi ?_)⟩
      intro a' W2 hA2 hg2 hsz2 hkp2
      have hl2 : W2.heap[w.heap.size + 1]? = some (.loop (rec .ready none)) := hg2.lo.trans hl
      have hk2 : W2.heap[w.heap.size]? = some (.deferred (some [])) := hg2.de.trans hk
      have hlt2 : w.heap.size + 1 < W2.heap.size := by omega
      refine ⟨_, run_beginRound hl2 (by rw [hrec]), ?_⟩
      have hl3 : (W2.putObj (w.heap.size + 1) (.loop { rec .ready none with state := .busy })).heap[w.heap.size + 1]? = some (.loop { rec .ready none with state := .busy }) := World.putObj_heap_same hlt2
      have hk3 : (W2.putObj (w.heap.size + 1) (.loop { rec .ready none with state := .busy })).heap[w.heap.size]? = some (.deferred (some [])) := (World.putObj_heap_other (by omega)).trans hk2
      have hkp3 : Kp W (W2.putObj (w.heap.size + 1) (.loop { rec .ready none with state := .busy })) := hKt hkp2 (hKb _ _ hlt2)
      refine wpIn_mono (hbody pre x a' _ (by rw [World.putObj_size]; exact hlt2) (hA _ _ _ _ _ hlt2 hA2) hlen) ?_
      have fin : ∀ (jump : Option Code) (W4 : World), RgIn w.heap.size (W2.putObj (w.heap.size + 1) (.loop { rec .ready none with state := .busy })) W4 →
          (Instr.endRound (w.heap.size + 1) jump).run P W4 = .ok (.bool jump.isNone) (W4.putObj (w.heap.size + 1) (.loop (rec (if jump.isNone then .ready else .done) jump))) ∧
          w.heap.size + 1 < W4.heap.size ∧
          (W4.putObj (w.heap.size + 1) (.loop (rec (if jump.isNone then .ready else .done) jump))).heap[w.heap.size + 1]? = some (.loop (rec (if jump.isNone then .ready else .done) jump)) ∧
          (W4.putObj (w.heap.size + 1) (.loop (rec (if jump.isNone then .ready else .done) jump))).heap[w.heap.size]? = some (.deferred (some [])) := fun jump W4 hg4 => by
        have hl4 := hg4.lo.trans hl3
        have hr := run_endRound (P := P) jump hl4
        rw [hrec] at hr ⊢
        exact ⟨hr, lt_of_block hl4, World.putObj_heap_same (lt_of_block hl4), (World.putObj_heap_other (by omega)).trans (hg4.de.trans hk3)⟩
      rintro e a4 W4 hp
      cases e with
      | normal =>
        obtain ⟨hg4, hkp4, hi4⟩ := hp
        obtain ⟨hr, hlt4, hl5, hk5⟩ := fin none W4 hg4
        exact ⟨_, _, hr, .inl ⟨rfl, ⟨hturn hI _ _ _ hi4, hl5, hk5⟩, hKt (hKt hkp3 hkp4) (hKb _ _ hlt4)⟩⟩
      | ret =>
        obtain ⟨hg4, hi4⟩ := hp
        obtain ⟨hr, hlt4, hl5, hk5⟩ := fin (some .ret) W4 hg4
        exact ⟨_, _, hr, .inr ⟨rfl, .ret, hturn (hIx _) _ _ _ hi4, hl5, hk5⟩⟩
      | exit id =>
        obtain ⟨hg4, hi4⟩ := hp
        obtain ⟨hr, hlt4, hl5, hk5⟩ := fin (some (.exit id)) W4 hg4
        exact ⟨_, _, hr, .inr ⟨rfl, .exit id, hturn (hIx _) _ _ _ hi4, hl5, hk5⟩⟩
      | goto t =>
        obtain ⟨hg4, hi4⟩ := hp
        obtain ⟨hr, hlt4, hl5, hk5⟩ := fin (some (.goto t)) W4 hg4
        exact ⟨_, _, hr, .inr ⟨rfl, .goto t, hturn (hIx _) _ _ _ hi4, hl5, hk5⟩⟩
      | panic ch => exact hp.elim
      | outgrown => exact hp.elim
    · rintro e W2 ⟨⟨v, rfl⟩, (⟨xs, hS, hi, hl, hk⟩ | ⟨pre, hSp, c, hi, hl, hk⟩)⟩
      · exact ⟨none, _, by have := run_endLoop (P := P) hl (by rw [hrec]; simp); rw [hrec] at this; exact this, hdone xs _ hS (hturn hI _ _ _ hi) ((World.putObj_heap_other (by omega)).trans hk)⟩
      · exact ⟨some c, _, by have := run_endLoop (P := P) hl (by rw [hrec]; simp); rw [hrec] at this; exact this, hstop c pre _ hSp (hturn (hIx c) _ _ _ hi) ((World.putObj_heap_other (by omega)).trans hk)⟩
end Go.Proofs.YteikdcobpfohcaaGreatDoor
