/- A range over a function whose iterator keeps cells of its own. -/
import Derived.RangeFuncFrom
import Derived.Test.YtcdjckdbcffgdaaGreatDoorMAa
import Derived.ScopeJumps
import Derived.CallsIn
import Derived.RangeFuncBound
import Derived.RangeFuncCalls
import Derived.Shelf.Abstract
import Derived.Shelf.RegionOpen
import Derived.OwnWalkIn
import Derived.TacticsInMore
import Derived.LoopNIn
import Derived.LoopIn
import Derived.BigRegionIn
import Derived.Test.YtcdjckdbcffgdaaGreatDoorMCc
namespace Go.Proofs.YtcdjckdbcffgdaaGreatDoor
open Go.RowKit

/-- What is said of a world bears new blocks, and turns of those blocks. -/
def Bears {β : Type} (own : Nat → Prop) (J : β → World → Prop) : Prop := ∀ s A B, J s A → Fr own A B → J s B

/-- The iterator's contract: it may turn the blocks of 'own'; a round that goes on keeps Kp. -/
def SeqOwn {α : Type} (F : Fence) (n : Nat) (P : Program) (g : Nat) (lb : Array Value) (encs : α → Array Value) (own : Nat → Prop) (Kp : World → World → Prop) (S Sp : List α → Prop) (N : Nat) (w : World) : Prop :=
  ∀ (l : Nat) (J Jx : List α → World → Prop) (W : World), Below w.heap.size w W → Bears own J → Bears own Jx →
    (∀ pre x W1, J pre W1 → pre.length < N → YieldAt F (n - 1) P l (encs x) W1 fun e W' =>
      (e = .returned (.bool true) ∧ J (pre ++ [x]) W' ∧ Kp W1 W') ∨ (e = .returned (.bool false) ∧ Jx (pre ++ [x]) W')) →
    J [] W →
    CallsIn F n P g (#[.func (.yield l) #[] #[]] ++ lb) W fun e W' => (∃ v, e = .returned v) ∧ ((∃ xs, S xs ∧ J xs W') ∨ (∃ pre, Sp pre ∧ Jx pre W'))

/-- A round leaves the loop's two blocks alone. -/
structure RgIn (n : Nat) (W W' : World) : Prop where
  de : W'.heap[n]? = W.heap[n]?
  lo : W'.heap[n + 1]? = W.heap[n + 1]?
theorem RgIn.refl (n : Nat) (W : World) : RgIn n W W := ⟨rfl, rfl⟩
theorem RgIn.trans {n : Nat} {A B C : World} (h : RgIn n A B) (k : RgIn n B C) : RgIn n A C := ⟨k.de.trans h.de, k.lo.trans h.lo⟩
theorem RgIn.fr {n : Nat} {S : Nat → Prop} {W W' : World} (h : Fr S W W') (hn : n + 1 < W.heap.size) (h1 : ¬ S n) (h2 : ¬ S (n + 1)) : RgIn n W W' := ⟨h.block n (by omega) h1, h.block (n + 1) hn h2⟩
/-- How a round's body may be left. -/
def rgPost {α : Type} (n : Nat) (Kp : World → World → Prop) (I : List α → World → Prop) (Ix : Code → List α → World → Prop) (xs : List α) (W : World) : Exit → Act → World → Prop
  | .normal, _, W' => RgIn n W W' ∧ Kp W W' ∧ I xs W'
  | .ret, _, W' => RgIn n W W' ∧ Ix .ret xs W'
  | .exit id, _, W' => RgIn n W W' ∧ Ix (.exit id) xs W'
  | .goto t, _, W' => RgIn n W W' ∧ Ix (.goto t) xs W'
  | .panic _, _, _ => False
  | .outgrown, _, _ => False

theorem Fr.putObj {S : Nat → Prop} {a b : World} (h : Fr S a b) (r : Nat) (hr : r < a.heap.size → S r) (o : Obj) : Fr S a (b.putObj r o) :=
  ⟨h.os, h.tape, h.output, by rw [World.putObj_size]; exact h.size, fun k hk hs => (World.putObj_heap_other (fun e => hs (by rw [e]; exact hr (by omega)))).trans (h.block k hk hs)⟩

variable {F : Fence} {n : Nat} {P : Program}

/-- The statement 'for .. := range g', where g keeps cells of its own. -/
theorem wpIn_range_own {α : Type} {g : Operand} {ps : Array Tmp} {assign body : Code} {Q : Exit → Act → World → Prop} {a : Act} {w : World}
    (hro : F.round = none) (h1 : 1 ≤ n) {gf : Nat} {lb : Array Value} (hg : a.eval g = .func (.func gf) #[] lb) (hFg : F.fn gf) (eg : ∀ args w, (callFunc gf args).run P w = .ok (.enter gf args) w)
    {encs : α → Array Value} {own : Nat → Prop} {Kp : World → World → Prop} {S Sp : List α → Prop} {N : Nat} (hseq : SeqOwn F (n - 1) P gf lb encs own Kp S Sp N w) (hown : ∀ k, own k → k < w.heap.size)
    (hKt : ∀ {A B C : World}, Kp A B → Kp B C → Kp A C) (hKb : ∀ (W : World) (o : Obj), w.heap.size + 1 < W.heap.size → Kp W (W.putObj (w.heap.size + 1) o)) (hps : ∀ x, (encs x).size = ps.size)
    (I : List α → World → Prop) (Ix : Code → List α → World → Prop) (hI : Bears (fun k => own k ∨ k = w.heap.size ∨ k = w.heap.size + 1) I) (hIx : ∀ c, Bears (fun k => own k ∨ k = w.heap.size ∨ k = w.heap.size + 1) (Ix c)) (h0 : I [] w)
    (A : List α → α → Act → World → Prop) (hA : ∀ pre x a' W o, w.heap.size + 1 < W.heap.size → A pre x a' W → A pre x a' (W.putObj (w.heap.size + 1) o))
    (hassign : ∀ (pre : List α) (x : α) (W : World) (K : Act → World → Prop), w.heap.size + 1 < W.heap.size → I pre W → (∀ a' W', A pre x a' W' → RgIn w.heap.size W W' → W.heap.size ≤ W'.heap.size → Kp W W' → K a' W') →
      assign.wpIn (F.inRound (w.heap.size + 1)) (n - 1 - 1) P (Exit.then K (fun _ _ _ => False)) { tmps := (ps.zip (encs x)).foldl (fun t (p, v) => t.setIfInBounds p v) a.tmps, defers := [] } W)
    (hbody : ∀ (pre : List α) (x : α) (a' : Act) (W : World), w.heap.size + 1 < W.heap.size → A pre x a' W → pre.length < N → body.wpIn (F.inRound (w.heap.size + 1)) (n - 1 - 1) P (rgPost w.heap.size Kp I Ix (pre ++ [x]) W) a' W)
    (hdone : ∀ (xs : List α) (W : World), S xs → I xs W → W.heap[w.heap.size]? = some (.deferred (some [])) → Q .normal { a with defers := { target := .collected w.heap.size, args := #[] } :: a.defers } W)
    (hstop : ∀ (c : Code) (pre : List α) (W : World), Sp pre → Ix c pre W → W.heap[w.heap.size]? = some (.deferred (some [])) → c.wpIn F n P Q { a with defers := { target := .collected w.heap.size, args := #[] } :: a.defers } W) :
    (Code.rangeFunc g ps assign body).wpIn F n P Q a w := by
  refine wpIn_rangeFunc ?_
  intro fn hfn
  rw [hro]
  obtain ⟨rec, hrec⟩ : ∃ rec : LoopState → Option Code → Loop, rec = fun st pe => { state := st, pending := pe, fn, tmps := a.tmps, params := ps, assign, body, defers := w.heap.size } := ⟨_, rfl⟩
  obtain ⟨N0, hN0⟩ : ∃ N0, N0 = w.heap.size := ⟨_, rfl⟩
  obtain ⟨W1, hW1⟩ : ∃ W1, (w.alloc (.deferred (some []))).alloc (.loop (rec .ready none)) = W1 := ⟨_, rfl⟩
  have hL1 : W1.heap[w.heap.size + 1]? = some (.loop (rec .ready none)) := by
    rw [← hW1]; have := World.alloc_heap_new (w.alloc (.deferred (some []))) (.loop (rec .ready none)); rwa [World.size_alloc] at this
  have hK1 : W1.heap[w.heap.size]? = some (.deferred (some [])) := by
    rw [← hW1]; exact (Below.heap_alloc _ _ _ (by simp)).trans (World.alloc_heap_new w _)
  have hf1 : ∀ {S : Nat → Prop}, Fr S w W1 := by intro S; rw [← hW1]; exact ((Fr.refl S w).alloc _).alloc _
  have hI1 : I [] W1 := hI _ _ _ h0 hf1
  have hb1 : Below w.heap.size w W1 := by rw [← hW1]; exact ((Below.refl _ w).alloc (Nat.le_refl _) _).alloc (by simp) _
  -- a turn of the loop's record
  have hturn : ∀ {β : Type} {J : β → World → Prop} (_ : Bears (fun k => own k ∨ k = w.heap.size ∨ k = w.heap.size + 1) J) (s : β) (W : World) (o : Obj), J s W → J s (W.putObj (w.heap.size + 1) o) :=
    fun hJ s W o hs => hJ s _ _ hs ((Fr.refl _ W).putObj _ (fun _ => .inr (.inr rfl)) o)
  have hkeep : ∀ {X Y : World} {k : Nat} {o : Obj}, Fr own X Y → w.heap.size ≤ k → X.heap[k]? = some o → Y.heap[k]? = some o :=
    fun hf hk h => (hf.block _ (lt_of_block h) (fun e => by have := hown _ e; omega)).trans h
  refine ⟨w.heap.size + 1, [{ target := .collected w.heap.size, args := #[] }], W1, { target := .fn (.func gf) lb, args := #[.func (.yield (w.heap.size + 1)) #[] #[]] }, W1, gf,
    #[.func (.yield (w.heap.size + 1)) #[] #[]] ++ lb, W1, ?_, ?_, ?_, ?_, fun _ => h1, ?_⟩
  · rw [← hW1, hrec]; exact run_enterLoop_outer _ _ _ _ _
  · simp only [resolve, hg]
    simp [go_sem]
  · intro f' hf'; simp [Target.leads] at hf'; subst hf'; exact hFg
  · simp [invoke, go_sem, eg]
  · refine (hseq (w.heap.size + 1)
      (fun pre W => I pre W ∧ W.heap[w.heap.size + 1]? = some (.loop (rec .ready none)) ∧ W.heap[w.heap.size]? = some (.deferred (some [])))
      (fun pre W => ∃ c, Ix c pre W ∧ W.heap[w.heap.size + 1]? = some (.loop (rec .done (some c))) ∧ W.heap[w.heap.size]? = some (.deferred (some [])))
      W1 hb1
      (fun s X Y hs hf => ⟨hI s X Y hs.1 (hf.mono (fun _ _ e => .inl e)), hkeep hf (by omega) hs.2.1, hkeep hf (Nat.le_refl _) hs.2.2⟩)
      (fun s X Y hs hf => by
        obtain ⟨c, hc, hl, hk⟩ := hs
        exact ⟨c, hIx c s X Y hc (hf.mono (fun _ _ e => .inl e)), hkeep hf (by omega) hl, hkeep hf (Nat.le_refl _) hk⟩)
      ?_ ⟨hI1, hL1, hK1⟩).mono ?_
    · rintro pre x W ⟨hi, hl, hk⟩ hlen
      have hlt : w.heap.size + 1 < W.heap.size := lt_of_block hl
      have hy := run_yield (P := P) (args := encs x) hl (by rw [hrec]; exact hps x)
      rw [hrec] at hy
      refine ⟨fn, _, assign, body, hy, roundIn_of_wpIn hfn (hassign pre x W _ hlt hi ?_)⟩
      intro a' W2 hA2 hg2 hsz2 hkp2
      have hl2 : W2.heap[w.heap.size + 1]? = some (.loop (rec .ready none)) := hg2.lo.trans hl
      have hk2 : W2.heap[w.heap.size]? = some (.deferred (some [])) := hg2.de.trans hk
      have hlt2 : w.heap.size + 1 < W2.heap.size := by omega
      refine ⟨_, run_beginRound hl2 (by rw [hrec]), ?_⟩
      have hl3 : (W2.putObj (w.heap.size + 1) (.loop { rec .ready none with state := .busy })).heap[w.heap.size + 1]? = some (.loop { rec .ready none with state := .busy }) := World.putObj_heap_same hlt2
      have hk3 : (W2.putObj (w.heap.size + 1) (.loop { rec .ready none with state := .busy })).heap[w.heap.size]? = some (.deferred (some [])) := (World.putObj_heap_other (by omega)).trans hk2
      have hkp3 : Kp W (W2.putObj (w.heap.size + 1) (.loop { rec .ready none with state := .busy })) := hKt hkp2 (hKb _ _ hlt2)
      refine wpIn_mono (hbody pre x a' _ (by rw [World.putObj_size]; exact hlt2) (hA _ _ _ _ _ hlt2 hA2) hlen) ?_
      have fin : ∀ (jump : Option Code) (W4 : World), RgIn w.heap.size (W2.putObj (w.heap.size + 1) (.loop { rec .ready none with state := .busy })) W4 →
          (Instr.endRound (w.heap.size + 1) jump).run P W4 = .ok (.bool jump.isNone) (W4.putObj (w.heap.size + 1) (.loop (rec (if jump.isNone then .ready else .done) jump))) ∧
          w.heap.size + 1 < W4.heap.size ∧
          (W4.putObj (w.heap.size + 1) (.loop (rec (if jump.isNone then .ready else .done) jump))).heap[w.heap.size + 1]? = some (.loop (rec (if jump.isNone then .ready else .done) jump)) ∧
          (W4.putObj (w.heap.size + 1) (.loop (rec (if jump.isNone then .ready else .done) jump))).heap[w.heap.size]? = some (.deferred (some [])) := fun jump W4 hg4 => by
        have hl4 := hg4.lo.trans hl3
        have hr := run_endRound (P := P) jump hl4
        rw [hrec] at hr ⊢
        exact ⟨hr, lt_of_block hl4, World.putObj_heap_same (lt_of_block hl4), (World.putObj_heap_other (by omega)).trans (hg4.de.trans hk3)⟩
      rintro e a4 W4 hp
      cases e with
      | normal =>
        obtain ⟨hg4, hkp4, hi4⟩ := hp
        obtain ⟨hr, hlt4, hl5, hk5⟩ := fin none W4 hg4
        exact ⟨_, _, hr, .inl ⟨rfl, ⟨hturn hI _ _ _ hi4, hl5, hk5⟩, hKt (hKt hkp3 hkp4) (hKb _ _ hlt4)⟩⟩
      | ret =>
        obtain ⟨hg4, hi4⟩ := hp
        obtain ⟨hr, hlt4, hl5, hk5⟩ := fin (some .ret) W4 hg4
        exact ⟨_, _, hr, .inr ⟨rfl, .ret, hturn (hIx _) _ _ _ hi4, hl5, hk5⟩⟩
      | exit id =>
        obtain ⟨hg4, hi4⟩ := hp
        obtain ⟨hr, hlt4, hl5, hk5⟩ := fin (some (.exit id)) W4 hg4
        exact ⟨_, _, hr, .inr ⟨rfl, .exit id, hturn (hIx _) _ _ _ hi4, hl5, hk5⟩⟩
      | goto t =>
        obtain ⟨hg4, hi4⟩ := hp
        obtain ⟨hr, hlt4, hl5, hk5⟩ := fin (some (.goto t)) W4 hg4
        exact ⟨_, _, hr, .inr ⟨rfl, .goto t, hturn (hIx _) _ _ _ hi4, hl5, hk5⟩⟩
      | panic ch => exact hp.elim
      | outgrown => exact hp.elim
    · rintro e W2 ⟨⟨v, rfl⟩, (⟨xs, hS, hi, hl, hk⟩ | ⟨pre, hSp, c, hi, hl, hk⟩)⟩
      · exact ⟨none, _, by have := run_endLoop (P := P) hl (by rw [hrec]; simp); rw [hrec] at this; exact this, hdone xs _ hS (hturn hI _ _ _ hi) ((World.putObj_heap_other (by omega)).trans hk)⟩
      · exact ⟨some c, _, by have := run_endLoop (P := P) hl (by rw [hrec]; simp); rw [hrec] at this; exact this, hstop c pre _ hSp (hturn (hIx c) _ _ _ hi) ((World.putObj_heap_other (by omega)).trans hk)⟩
end Go.Proofs.YtcdjckdbcffgdaaGreatDoor

/- A scope in which the run jumps back to one label, inside a fence. No program. -/
namespace Go.Proofs.YtcdjckdbcffgdaaGreatDoor
open Go.RowKit

section
variable {F : Fence} {n : Nat} {P : Program} {a : Act} {w : World} {Q : Exit → Act → World → Prop} {b : Frame} {k : List Item} {cs : List Frame}

theorem stepR_scopeX {c : Code} : step P (lone (b.atR a (.code (.scope c) :: k)) cs w) = .next (lone (b.atR a (.code c :: .inScope c :: k)) cs w) :=
  step_lone_go (by simp [stepG, stepG.exec, Frame.atR])
theorem stepR_inScopeX {c : Code} : step P (lone (b.atR a (.inScope c :: k)) cs w) = .next (lone (b.atR a k) cs w) :=
  step_lone_go (by simp [stepG, stepG.exec, Frame.atR])

/-- As 'wp_scope_jumps', inside a fence. -/
theorem wpIn_scope_jumps {c rest : Code} (l : Nat) (J : Act → World → Prop) (μ : Act → World → Nat) (hf : findLabel c l = some rest)
    (first : c.wpIn F n P (Exit.jump l J Q) a w)
    (pass : ∀ a w, J a w → rest.wpIn F n P (Exit.jump l (fun a' w' => J a' w' ∧ μ a' w' < μ a w) Q) a w) : (Code.scope c).wpIn F n P Q a w := by
  intro b k cs hro hb hr
  have hg : gotoIn l (.inScope c :: k) = some (.code rest :: .inScope c :: k) := by simp [gotoIn, hf]
  have hx : ∀ id, exitTo id (.inScope c :: k) = exitTo id k := fun id => by simp [exitTo]
  have h0 : (lone (b.atR a (.code (.scope c) :: k)) cs w).fenced P F := fenced_calm hb hr rfl
  have key : ∀ j a w, μ a w = j → J a w → ∃ e a' w', Q e a' w' ∧ ArrivesIn (Machine.fenced P F) P (lone (b.atR a (.code rest :: .inScope c :: k)) cs w) b k cs e a' w' := by
    intro j
    induction j using Nat.strongRecOn with
    | _ j ih =>
      intro a w hn hJ
      obtain ⟨e, a₁, w₁, hq, harr⟩ := pass a w hJ b (.inScope c :: k) cs hro hb hr
      cases e with
      | normal => exact ⟨.normal, a₁, w₁, hq, StepsIn.trans harr (.one (fenced_calm hb hr rfl) stepR_inScopeX)⟩
      | exit id => exact ⟨.exit id, a₁, w₁, hq, fun k' hk => harr.1 k' (by rw [hx]; exact hk), fun hr' hk => harr.2 hr' (by rw [hx]; exact hk)⟩
      | goto l' =>
        obtain ⟨rfl, hJ', hlt⟩ := hq
        obtain ⟨e₂, a₂, w₂, hq₂, harr₂⟩ := ih _ (by omega) a₁ w₁ rfl hJ'
        exact ⟨e₂, a₂, w₂, hq₂, .of_steps (harr.1 _ hg) harr₂⟩
      | ret => exact ⟨_, a₁, w₁, hq, harr⟩
      | panic ch => exact ⟨_, a₁, w₁, hq, harr⟩
      | outgrown => exact ⟨_, a₁, w₁, hq, harr⟩
  obtain ⟨e, a₁, w₁, hq, harr⟩ := first b (.inScope c :: k) cs hro hb hr
  cases e with
  | normal => exact ⟨.normal, a₁, w₁, hq, .head h0 stepR_scopeX (StepsIn.trans harr (.one (fenced_calm hb hr rfl) stepR_inScopeX))⟩
  | exit id => exact ⟨.exit id, a₁, w₁, hq, fun k' hk => .head h0 stepR_scopeX (harr.1 k' (by rw [hx]; exact hk)), fun hr' hk => let ⟨k₁, h1, h2⟩ := harr.2 hr' (by rw [hx]; exact hk); ⟨k₁, h1, .head h0 stepR_scopeX h2⟩⟩
  | goto l' =>
    obtain ⟨rfl, hJ'⟩ := hq
    obtain ⟨e₂, a₂, w₂, hq₂, harr₂⟩ := key _ a₁ w₁ rfl hJ'
    exact ⟨e₂, a₂, w₂, hq₂, .of_steps (.head h0 stepR_scopeX (harr.1 _ hg)) harr₂⟩
  | ret => exact ⟨_, a₁, w₁, hq, .of_steps (.one h0 stepR_scopeX) harr⟩
  | panic ch => exact ⟨_, a₁, w₁, hq, .of_steps (.one h0 stepR_scopeX) harr⟩
  | outgrown => exact ⟨_, a₁, w₁, hq, .of_steps (.one h0 stepR_scopeX) harr⟩
theorem wpIn_scope_loop {x : Code} (l : Nat) (J : Act → World → Prop) (μ : Act → World → Nat) (h0 : J a w)
    (pass : ∀ a w, J a w → x.wpIn F n P (Exit.jump l (fun a' w' => J a' w' ∧ μ a' w' < μ a w) Q) a w) : (Code.scope (.seq (.label l) x)).wpIn F n P Q a w :=
  wpIn_scope_jumps (rest := .seq .skip x) l J μ (by simp [findLabel]) (wpIn_seq (wpIn_label (wpIn_mono (pass a w h0) (fun e a w h => by
    cases e with
    | goto l' => exact ⟨h.1, h.2.1⟩
    | _ => exact h)))) (fun a w h => wpIn_seq (wpIn_skip (pass a w h)))
end
end Go.Proofs.YtcdjckdbcffgdaaGreatDoor

/- The iterator of frame.Scan: frames, from a place on. -/
namespace Go.Proofs.YtcdjckdbcffgdaaGreatDoor
open Go.RowKit Go.Shelf
attribute [local go_sem] Oper.semAt_some

/-- A frame as it is told: its place, its number, its payload. -/
structure FrX where
  a : Nat
  q : Nat
  p : ByteArray
def FrX.next (x : FrX) : Nat := x.a + 16 + x.p.size
def frEnc (x : FrX) : Array Value := #[.int .i64 (x.next : Int), .agg #[.int .i64 (x.q : Int), .string x.p, .int .i64 (x.a : Int)]]
/-- Frames in their row, from a place, and a number, on. -/
def frChain (s : List UInt8) : Nat → Nat → List FrX → Prop
  | _, _, [] => True
  | a, q, x :: r => x.a = a ∧ x.q = q ∧ frRead (s.drop a) = (0, q, x.p.data.toList) ∧ frChain s x.next (q + 1) r
def frEnd : Nat → List FrX → Nat
  | a, [] => a
  | _, x :: r => frEnd x.next r
theorem frEnd_snoc (a : Nat) (l : List FrX) (x : FrX) : frEnd a (l ++ [x]) = x.next := by
  induction l generalizing a with
  | nil => rfl
  | cons y r ih => exact ih _
theorem frChain_snoc {s : List UInt8} {l : List FrX} {x : FrX} : ∀ {a q : Nat}, frChain s a q l → x.a = frEnd a l → x.q = q + l.length → frRead (s.drop x.a) = (0, x.q, x.p.data.toList) → frChain s a q (l ++ [x]) := by
  induction l with
  | nil => intro a q _ h1 h2 h3; exact ⟨h1, h2, by rw [show a = x.a from h1.symm, show q = x.q from h2.symm]; exact h3, trivial⟩
  | cons y r ih =>
    intro a q h h1 h2 h3
    obtain ⟨g1, g2, g3, g4⟩ := h
    exact ⟨g1, g2, g3, ih g4 h1 (by rw [h2, List.length_cons]; omega) h3⟩
theorem frRead_le {t : List UInt8} {q : Nat} {p : List UInt8} (h : frRead t = (0, q, p)) : 16 + p.length ≤ t.length ∧ q < 1048576 ∧ 1 ≤ p.length := by
  obtain ⟨h1, h2, h3⟩ := read_back h
  refine ⟨?_, h2, h1.1⟩
  rw [h3, List.length_append, frBytes_length]; omega

/-- The three boxes of the iterator. -/
structure FsAt (w : World) (c1 c2 c3 : Nat) (s : ByteArray) (a q : Nat) : Prop where
  b1 : w.heap[c1]? = some (.cells #[.string s] 9 (0, 0))
  b2 : w.heap[c2]? = some (.cells #[.int .i64 (a : Int)] 3 (0, 0))
  b3 : w.heap[c3]? = some (.cells #[.int .i64 (q : Int)] 2 (0, 0))
def FqKeep (c1 c2 c3 : Nat) (A B : World) : Prop := A.heap.size ≤ B.heap.size ∧ B.heap[c1]? = A.heap[c1]? ∧ B.heap[c2]? = A.heap[c2]? ∧ B.heap[c3]? = A.heap[c3]?
theorem FsAt.keep {w w' : World} {c1 c2 c3 : Nat} {s : ByteArray} {a q : Nat} (h : FsAt w c1 c2 c3 s a q) (k : FqKeep c1 c2 c3 w w') : FsAt w' c1 c2 c3 s a q :=
  ⟨k.2.1.trans h.b1, k.2.2.1.trans h.b2, k.2.2.2.trans h.b3⟩
theorem FsAt.pure {w w' : World} {c1 c2 c3 : Nat} {s : ByteArray} {a q : Nat} (h : FsAt w c1 c2 c3 s a q) (hb : Below w.heap.size w w') : FsAt w' c1 c2 c3 s a q :=
  ⟨(hb.block _ (lt_of_block h.b1)).trans h.b1, (hb.block _ (lt_of_block h.b2)).trans h.b2, (hb.block _ (lt_of_block h.b3)).trans h.b3⟩
theorem FsAt.next {w : World} {c1 c2 c3 : Nat} {s : ByteArray} {a q : Nat} (h : FsAt w c1 c2 c3 s a q) (h12 : c1 ≠ c2) (h13 : c1 ≠ c3) (h23 : c2 ≠ c3) {x y : Int} (a' q' : Nat) (hx : x = (a' : Int)) (hy : y = (q' : Int)) :
    FsAt ((w.setCell ⟨c2, 0, none⟩ (.int .i64 x)).setCell ⟨c3, 0, none⟩ (.int .i64 y)).drew c1 c2 c3 s a' q' := by
  subst hx; subst hy
  refine ⟨?_, ?_, ?_⟩
  · show ((w.setCell ⟨c2, 0, none⟩ _).setCell ⟨c3, 0, none⟩ _).heap[c1]? = _
    rw [Below.heap_setCell _ _ _ _ h13, Below.heap_setCell _ _ _ _ h12]; exact h.b1
  · show ((w.setCell ⟨c2, 0, none⟩ _).setCell ⟨c3, 0, none⟩ _).heap[c2]? = _
    rw [Below.heap_setCell _ _ _ _ h23]; exact one_setCell h.b2
  · show ((w.setCell ⟨c2, 0, none⟩ _).setCell ⟨c3, 0, none⟩ _).heap[c3]? = _
    exact one_setCell ((Below.heap_setCell _ _ _ _ h23.symm).trans h.b3)
theorem FsAt.a2 {w : World} {c1 c2 c3 : Nat} {s : ByteArray} {a q : Nat} (h : FsAt w c1 c2 c3 s a q) : (intOf ((w.cell? ⟨c2, 0, none⟩).getD undef)).toNat = a := by
  rw [show w.cell? ⟨c2, 0, none⟩ = some (.int .i64 (a : Int)) from (cell_of_row _ _ _ _ _ _ h.b2).trans rfl]; rfl
/-- All has come. -/
def FsDone (s : List UInt8) (a q : Nat) (xs : List FrX) : Prop := frChain s a q xs ∧ ¬ ((frRead (s.drop (frEnd a xs))).1 = 0 ∧ (frRead (s.drop (frEnd a xs))).2.1 = q + xs.length)

set_option maxRecDepth 100000 in
set_option maxHeartbeats 4000000 in
theorem frames_seq (w : World) (c1 c2 c3 : Nat) (s : ByteArray) (a0 q0 : Nat) (h12 : c1 ≠ c2) (h13 : c1 ≠ c3) (h23 : c2 ≠ c3) (hs : s.size ≤ 1099511627776) (ha : a0 ≤ s.size) (hq : q0 ≤ 1048576) (hat : FsAt w c1 c2 c3 s a0 q0) (N : Nat) (hN : s.size < N) :
    SeqOwn Fence.wide 5 Tryz.prog 169 #[.pointer (some ⟨c1, 0, none⟩), .pointer (some ⟨c2, 0, none⟩), .pointer (some ⟨c3, 0, none⟩)] frEnc (fun k => k = c2 ∨ k = c3) (FqKeep c1 c2 c3) (FsDone s.data.toList a0 q0) (fun _ => True) N w := by
  intro l J Jx W hW hJ hJx hY h0
  have hatW : FsAt W c1 c2 c3 s a0 q0 := ⟨(hW.block _ (lt_of_block hat.b1)).trans hat.b1, (hW.block _ (lt_of_block hat.b2)).trans hat.b2, (hW.block _ (lt_of_block hat.b3)).trans hat.b3⟩
  have HAT := Lib.hid hatW
  have HJ := Lib.hid hJ
  have HJX := Lib.hid hJx
  have HY := Lib.hid hY
  have H0 := Lib.hid h0
  clear hat hatW hJ hJx hY h0 hW
  refine callsIn_of_wp Tryz.func169 rfl trivial ?_ rfl
  simp only [Tryz.ntmps169, List.size_toArray, List.length_cons, List.length_nil, Nat.reduceAdd, Nat.reduceSub, Array.replicate_succ, Array.replicate_zero, List.push_toArray, List.append_toArray, List.nil_append, List.cons_append]
  refine wpIn_scope_loop 0 (fun a wr => ∃ (pre : List FrX) (u4 u5 u6 u7 u8 u9 u10 u11 u12 u13 u14 u15 u16 u17 u18 u19 u20 u21 u22 u23 u24 u25 u26 u27 u28 u29 u30 u31 : Value), a = { tmps := #[.func (.yield l) #[] #[], .pointer (some ⟨c1, 0, none⟩), .pointer (some ⟨c2, 0, none⟩), .pointer (some ⟨c3, 0, none⟩), u4, u5, u6, u7, u8, u9, u10, u11, u12, u13, u14, u15, u16, u17, u18, u19, u20, u21, u22, u23, u24, u25, u26, u27, u28, u29, u30, u31], defers := [] } ∧
      frChain s.data.toList a0 q0 pre ∧ J pre wr ∧ FsAt wr c1 c2 c3 s (frEnd a0 pre) (q0 + pre.length) ∧ frEnd a0 pre ≤ s.size ∧ q0 + pre.length ≤ 1048576 ∧ a0 + pre.length ≤ frEnd a0 pre) (fun _ wr => s.size - (intOf ((wr.cell? ⟨c2, 0, none⟩).getD undef)).toNat) ?_ ?_
  · exact ⟨[], _, _, _, _, _, _, _, _, _, _, _, _, _, _, _, _, _, _, _, _, _, _, _, _, _, _, _, _, rfl, trivial, H0.out, HAT.out, ha, hq, by simp [frEnd]⟩
  · rintro a wr ⟨pre, u4, u5, u6, u7, u8, u9, u10, u11, u12, u13, u14, u15, u16, u17, u18, u19, u20, u21, u22, u23, u24, u25, u26, u27, u28, u29, u30, u31, rfl, hch, hJp, hat, hle, hqb, hmo⟩
    have HCH := Lib.hid hch
    have HJP := Lib.hid hJp
    have HB := Lib.hid hat
    clear hch hJp
    have e1 : wr.cell? ⟨c1, 0, none⟩ = some (.string s) := (cell_of_row _ _ _ _ _ _ hat.b1).trans rfl
    have e2 : wr.cell? ⟨c2, 0, none⟩ = some (.int .i64 (frEnd a0 pre : Int)) := (cell_of_row _ _ _ _ _ _ hat.b2).trans rfl
    have e3 : wr.cell? ⟨c3, 0, none⟩ = some (.int .i64 ((q0 + pre.length : Nat) : Int)) := (cell_of_row _ _ _ _ _ _ hat.b3).trans rfl
    obtain ⟨A, hA⟩ : ∃ A, A = frEnd a0 pre := ⟨_, rfl⟩
    obtain ⟨B, hB⟩ : ∃ B, B = q0 + pre.length := ⟨_, rfl⟩
    rw [← hA] at e2 hle
    rw [← hB] at e3
    have HA := Lib.hid hA
    have HBB := Lib.hid hB
    clear hat hA hB
    obtain ⟨c, q, pl, hrd⟩ : ∃ c q pl, frRead (s.data.toList.drop A) = (c, q, pl) := ⟨_, _, _, rfl⟩
    have HRD := Lib.hid hrd
    have stop : ∀ w4 : World, Fr (fun k => k = c2 ∨ k = c3) wr w4 → ¬ (c = 0 ∧ q = B) → (∃ v, Ending.returned (.tuple #[]) = .returned v) ∧ ((∃ xs, FsDone s.data.toList a0 q0 xs ∧ J xs w4) ∨ (∃ pre, True ∧ Jx pre w4)) := fun w4 hf hn =>
      ⟨⟨_, rfl⟩, .inl ⟨pre, ⟨HCH.out, by rw [← HA.out, HRD.out, ← HBB.out]; exact hn⟩, HJ.out _ _ _ HJP.out hf⟩⟩
    have HS := Lib.hid stop
    clear hrd stop
    by_cases hc : c = 0
    · by_cases hqB : q = B
      · subst hc
        subst hqB
        have hl := frRead_le HRD.out
        rw [List.length_drop, size_toList] at hl
        gi_wp2_with fail
        refine ⟨trivial, ?_⟩
        refine (callsIn_wide.2 (frread_any s A _ hle hs)).mono ?_
        rintro e w1 ⟨hb1, p, hp, rfl⟩
        rw [HRD.out] at hp ⊢
        simp only [if_true]
        have hps : p.size = pl.length := size_of_list hp
        have HP := Lib.hid hp
        have hc3 := lt_of_block HB.out.b3
        have hc2 := lt_of_block HB.out.b2
        have e3' : w1.cell? ⟨c3, 0, none⟩ = some (.int .i64 (q : Int)) := (hb1.cell (p := ⟨c3, 0, none⟩) hc3).trans e3
        have hs1 := hb1.size
        have hc3' : c3 < w1.heap.size := by omega
        have hlen : pre.length < N := by have := HA.out; omega
        have hf3 : Fr (fun k => k = c2 ∨ k = c3) wr (w1.alloc (.cells #[.int .i64 (q : Int), .string p, .int .i64 (A : Int)] 149)) := (Fr.pure hb1).alloc _
        obtain ⟨fn, tmps, assign, body, hy, hR⟩ := HY.out pre ⟨A, q, p⟩ _ (HJ.out _ _ _ HJP.out hf3) hlen
        have hx : (⟨A, q, p⟩ : FrX).next = A + 16 + pl.length := by unfold FrX.next; simp only [hps]
        unfold frEnc at hy
        rw [hx] at hy
        dsimp only at hy
        rw [show ((A + 16 + pl.length : Nat) : Int) = (A : Int) + 16 + (pl.length : Int) from by omega] at hy
        have HX := Lib.hid hx
        have HF3 := Lib.hid hf3
        have HPS := Lib.hid hps
        have HB1 := Lib.hid hb1
        clear hp hx hf3 hb1 e1 e2 e3 hps
        gi_wp2
        refine hR.mono ?_
        rintro e W4 (⟨rfl, hJ4, hk4⟩ | ⟨rfl, hJx4⟩)
        · have hb3 : FsAt (w1.alloc (.cells #[.int .i64 (q : Int), .string p, .int .i64 (A : Int)] 149)) c1 c2 c3 s (frEnd a0 pre) (q0 + pre.length) := HB.out.pure (HB1.out.alloc HB1.out.size _)
          have hb4 := hb3.keep hk4
          have d2 : W4.heap[c2]? = some (.cells #[.int .i64 (A : Int)] 3 (0, 0)) := by rw [HA.out]; exact hb4.b2
          have d3 : W4.heap[c3]? = some (.cells #[.int .i64 (q : Int)] 2 (0, 0)) := by rw [HBB.out]; exact hb4.b3
          have g2 : W4.cell? ⟨c2, 0, none⟩ = some (.int .i64 (A : Int)) := (cell_of_row _ _ _ _ _ _ d2).trans rfl
          have g3 : W4.cell? ⟨c3, 0, none⟩ = some (.int .i64 (q : Int)) := (cell_of_row _ _ _ _ _ _ d3).trans rfl
          have z2 : W4.frozen? ⟨c2, 0, none⟩ = false := frozen_of_row _ _ 0 _ _ d2
          have z3 : W4.frozen? ⟨c3, 0, none⟩ = false := frozen_of_row _ _ 0 _ _ d3
          have HB4 := Lib.hid hb4
          have HJ4 := Lib.hid hJ4
          have HD2 := Lib.hid d2
          have HD3 := Lib.hid d3
          have hql := hl.2.1
          clear hb3 hb4 hJ4 hk4 d2 d3 hy hR e3'
          gi_wp2
          gi_region
          gi_wp2
          refine wpIn_goto ?_
          change Exit.jump 0 _ _ _ _ _
          simp only [Exit.jump]
          have hnx : frEnd a0 (pre ++ [⟨A, q, p⟩]) = A + 16 + pl.length := by rw [frEnd_snoc]; exact HX.out
          have hN4 := HB4.out.next h12 h13 h23 (x := (A : Int) + 16 + (pl.length : Int)) (y := (q : Int) + 1) (A + 16 + pl.length) (q + 1) (by omega) (by omega)
          refine ⟨trivial, ⟨pre ++ [⟨A, q, p⟩], _, _, _, _, _, _, _, _, _, _, _, _, _, _, _, _, _, _, _, _, _, _, _, _, _, _, _, _, rfl, ?_, ?_, ?_, ?_, ?_, ?_⟩, ?_⟩
          · exact frChain_snoc HCH.out HA.out HBB.out (by rw [HP.out]; exact HRD.out)
          · exact HJ.out _ _ _ HJ4.out ((((Fr.refl (fun k => k = c2 ∨ k = c3) W4).setCell ⟨c2, 0, none⟩ (fun _ => .inl rfl) _).setCell ⟨c3, 0, none⟩ (fun _ => .inr rfl) _).drew)
          · rw [hnx, List.length_append, List.length_singleton, ← Nat.add_assoc, ← HBB.out]; exact hN4
          · rw [hnx]; omega
          · rw [List.length_append, List.length_singleton, ← Nat.add_assoc, ← HBB.out]; omega
          · rw [hnx, List.length_append, List.length_singleton]; have := HA.out; omega
          · rw [hN4.a2, HB.out.a2, ← HA.out]; omega
        · gi_wp2
          simp only [Exit.jump]
          go_end0
          exact ⟨⟨_, rfl⟩, .inr ⟨_, trivial, hJx4⟩⟩
      · subst hc
        have hl := frRead_le HRD.out
        rw [List.length_drop, size_toList] at hl
        have hqe : ((q : Int) == (B : Int)) = false := by rw [beq_eq_false_iff_ne]; omega
        have hqd : decide ((q : Int) = (B : Int)) = false := by rw [decide_eq_false_iff_not]; omega
        gi_wp2_with fail
        refine ⟨trivial, ?_⟩
        refine (callsIn_wide.2 (frread_any s A _ hle hs)).mono ?_
        rintro e w1 ⟨hb1, p, hp, rfl⟩
        rw [HRD.out] at hp ⊢
        simp only [if_true]
        have HB1 := Lib.hid hb1
        have hc3 := lt_of_block HB.out.b3
        have e3' : w1.cell? ⟨c3, 0, none⟩ = some (.int .i64 (B : Int)) := (hb1.cell (p := ⟨c3, 0, none⟩) hc3).trans e3
        have hs1 := hb1.size
        have hc3' : c3 < w1.heap.size := by omega
        clear hp hb1 e1 e2 e3
        gi_wp2
        refine ⟨fun _ h => (by cases h), ?_⟩
        gi_wp2
        simp only [Exit.jump]
        go_end0
        exact HS.out _ ((Fr.pure HB1.out).alloc _) (fun h => hqB h.2)
    · have hce : (c == 0) = false := by simpa using hc
      have hcd : decide (c = 0) = false := by simpa using hc
      gi_wp2_with fail
      refine ⟨trivial, ?_⟩
      refine (callsIn_wide.2 (frread_any s A _ hle hs)).mono ?_
      rintro e w1 ⟨hb1, p, hp, rfl⟩
      rw [HRD.out] at hp ⊢
      simp only [if_neg hc]
      have HB1 := Lib.hid hb1
      have HC := Lib.hid hc
      clear hp hb1 e1 e2 e3 hc
      gi_wp2
      refine ⟨fun _ h => (by cases h), ?_⟩
      gi_wp2
      simp only [Exit.jump]
      go_end0
      exact HS.out _ ((Fr.pure HB1.out).alloc _) (fun h => HC.out h.1)
end Go.Proofs.YtcdjckdbcffgdaaGreatDoor
