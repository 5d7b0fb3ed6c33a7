/- The steps of opening a log, as closures, and all of them. -/
import Derived.Test.YtcdjckdbcffgdaaGreatDoorMkSgm
import Derived.Test.YtcdjckdbcffgdaaGreatDoorMAq
import Derived.Test.YtcdjckdbcffgdaaGreatDoorMEd
import Derived.Test.YtcdjckdbcffgdaaGreatDoorMDl
import Derived.Deep.RegionHeld3
namespace Go.Proofs.YtcdjckdbcffgdaaGreatDoor
open Go.RowKit

set_option maxHeartbeats 400000 in
theorem open_act (w : World) (q r : Nat) (F : Nat → Prop) (g p b : Nat) (st : DkSt) (l : LgSt) (h : OpEnv w F g p b st l) (i : Nat) (hi : i < l.segs.length) (hix : l.ix.length ≤ 64)
    (hq : w.cell? ⟨q, 0, none⟩ = some (.pointer (some ⟨g, 0, none⟩))) (hr : w.cell? ⟨r, 0, none⟩ = some (.int .i64 (i : Int))) :
    Calls Tryz.prog 65 #[.pointer (some ⟨q, 0, none⟩), .pointer (some ⟨r, 0, none⟩)] w fun e w' => e = .returned (.int .i64 (segF i (st, l)).2) ∧ OpLeft w F g p b (segF i (st, l)).1 w' := by
  have HS := Lib.hid (segment_any w F g p b st l h i hi hix)
  clear h
  go_enter Tryz.func65, Tryz.ntmps65
  go_wp2_with fail
  refine HS.out.mono ?_
  rintro e w1 ⟨rfl, hl⟩
  have HL := Lib.hid hl
  clear hl hq hr HS
  go_wp2
  go_ret
  exact ⟨rfl, HL.out⟩

theorem segF_left (i : Nat) (st : DkSt) (l : LgSt) : (segF i (st, l)).1.2.segs = l.segs ∧ (segF i (st, l)).1.2.gen = l.gen ∧ (segF i (st, l)).1.2.cfg = l.cfg ∧ ((segF i (st, l)).2 = 0 → (segF i (st, l)).1.2.ix.length = l.ix.length + 1) := by
  unfold segF
  simp only
  split
  · exact ⟨rfl, rfl, rfl, fun h => by simp at h⟩
  split
  · rename_i h1 h2
    exact ⟨rfl, rfl, rfl, fun h => absurd h h2⟩
  split
  · exact ⟨rfl, rfl, rfl, fun h => by simp at h⟩
  split
  · split <;> exact ⟨rfl, rfl, rfl, fun _ => by simp⟩
  split
  · exact ⟨rfl, rfl, rfl, fun _ => by simp⟩
  split <;> exact ⟨rfl, rfl, rfl, fun _ => by simp⟩

theorem gone_keeps {st : DkSt} {n m : List UInt8} (h : (fsGet st.fs m).isSome) (hne : (n == m) = false) : (fsGet (goneF n st).1.fs m).isSome := by
  have hd : (fsGet (fsDel st.fs n) m).isSome := by
    unfold fsGet fsDel at *
    rw [List.find?_isSome] at *
    obtain ⟨f, hf, hm⟩ := h
    refine ⟨f, List.mem_filter.2 ⟨hf, ?_⟩, hm⟩
    have e : f.name = m := by simpa using hm
    rw [e]
    have : m ≠ n := fun e => by rw [e] at hne; simp at hne
    simpa using this
  unfold goneF dkDelete
  simp only
  split
  · exact h
  split
  · exact h
  unfold doing
  split
  · exact h
  · exact hd
theorem gone_names {st : DkSt} {n : List UInt8} (h : ∀ f ∈ st.fs, 1 ≤ f.name.length) : ∀ f ∈ (goneF n st).1.fs, 1 ≤ f.name.length := by
  unfold goneF dkDelete
  simp only
  split
  · exact h
  split
  · exact h
  unfold doing
  split
  · exact h
  · exact fun f hf => h f (List.mem_filter.1 hf).1

/-- The steps of opening, as they lie. -/
def openFs (fg : FnV) (g q : Nat) (rs : List Nat) : List FnV :=
  fg :: (64, #[.pointer (some ⟨g, 0, none⟩)], #[]) :: rs.map fun r => (65, #[], #[.pointer (some ⟨q, 0, none⟩), .pointer (some ⟨r, 0, none⟩)])

/-- What lies in memory while a log is opened, ahead of step k. -/
structure OpR (Wa : World) (F0 : Nat → Prop) (g p b : Nat) (l0 : LgSt) (k : Nat) (s : DkSt × LgSt) (W : World) : Prop where
  env : ∃ F, OpEnv W F g p b s.1 s.2 ∧ ∀ j, F j → F0 j ∨ Wa.heap.size ≤ j
  fr : Fr (fun j => F0 j ∨ j = p ∨ j = b) Wa W
  segs : s.2.segs = l0.segs
  ix : s.2.ix.length = k - 2
  disk : k ≤ 1 → (fsGet s.1.fs fileN).isSome ∧ ∀ f ∈ s.1.fs, 1 ≤ f.name.length

/-- What is left behind a step that failed. -/
def OpF (Wa : World) (F0 : Nat → Prop) (p b : Nat) (s : DkSt × LgSt) (W : World) : Prop := IsDk W p b s.1 ∧ Fr (fun j => F0 j ∨ j = p ∨ j = b) Wa W

theorem fr_more {S T : Nat → Prop} {w w1 w2 : World} (h : Fr S w w1) (h2 : Fr T w1 w2) (hT : ∀ k, T k → S k ∨ w.heap.size ≤ k) : Fr S w w2 :=
  fr_cut ((h.mono (fun _ _ e => .inl e)).trans (h2.mono (fun k _ e => hT k e)))

theorem get_some_pos {fs : Fs} {n : List UInt8} (h : (fsGet fs n).isSome) : 0 < fs.length := by
  cases fs with
  | nil => simp [fsGet] at h
  | cons a r => simp
theorem orphF_log (s : DkSt × LgSt) : (orphF s).1.2 = s.2 := by
  unfold orphF
  split <;> rfl
theorem openF_len (n : Nat) : (openF n).length = n + 2 := by unfold openF; simp
theorem openFs_len (fg : FnV) (g q : Nat) (rs : List Nat) : (openFs fg g q rs).length = rs.length + 2 := by unfold openFs; simp

theorem openFs_at (fg : FnV) (g q : Nat) (rs : List Nat) (i : Nat) (h : i + 2 < (openFs fg g q rs).length) (hi : i < rs.length) : (openFs fg g q rs)[i + 2] = (65, #[], #[.pointer (some ⟨q, 0, none⟩), .pointer (some ⟨rs[i], 0, none⟩)]) := by
  have e : openFs fg g q rs = fg :: (64, #[.pointer (some ⟨g, 0, none⟩)], #[]) :: rs.map fun r => (65, #[], #[.pointer (some ⟨q, 0, none⟩), .pointer (some ⟨r, 0, none⟩)]) := rfl
  rw [List.getElem_of_eq e h]
  simp
theorem openF_at (n i : Nat) (h : i + 2 < (openF n).length) : (openF n)[i + 2] = segF i := by
  have e : openF n = (fun s => ((((goneF freshN s.1).1, s.2), (goneF freshN s.1).2) : (DkSt × LgSt) × Int)) :: orphF :: (List.range n).map segF := rfl
  rw [List.getElem_of_eq e h]
  simp

set_option maxHeartbeats 1000000 in
/-- All steps of opening. -/
theorem open_all (Wa : World) (F0 : Nat → Prop) (g p b : Nat) (st0 : DkSt) (l0 : LgSt) (hE : OpEnv Wa F0 g p b st0 l0) (hix : l0.ix = []) (hfile : (fsGet st0.fs fileN).isSome) (hne : ∀ f ∈ st0.fs, 1 ≤ f.name.length)
    (fg : FnV) (K : Nat → Prop) (hfg : DkStep p b Wa K fg (goneF freshN)) (hK : ∀ k, K k → ¬ F0 k) (q : Nat) (hq : Wa.cell? ⟨q, 0, none⟩ = some (.pointer (some ⟨g, 0, none⟩))) (hqn : ¬ F0 q ∧ q ≠ p ∧ q ≠ b)
    (rs : List Nat) (hrl : rs.length = l0.segs.length) (hrs : ∀ i (h : i < rs.length), Wa.cell? ⟨rs[i], 0, none⟩ = some (.int .i64 (i : Int)) ∧ ¬ F0 rs[i] ∧ rs[i] ≠ p ∧ rs[i] ≠ b)
    (bb c : Nat) (hbb : ¬ F0 bb ∧ bb ≠ p ∧ bb ≠ b) (hrow : ∀ i (h : i < (openFs fg g q rs).length), Wa.cell? ⟨bb, 0 + i, none⟩ = some (funcV (openFs fg g q rs)[i])) :
    Calls Tryz.prog 47 #[.slice (some ⟨bb, 0, none⟩) (rs.length + 2) c] Wa fun e w' => e = .returned (.int .i64 (runL (openF rs.length) (st0, l0)).2) ∧
      ((runL (openF rs.length) (st0, l0)).2 = 0 → OpR Wa F0 g p b l0 (rs.length + 2) (runL (openF rs.length) (st0, l0)).1 w') ∧ ((runL (openF rs.length) (st0, l0)).2 ≠ 0 → OpF Wa F0 p b (runL (openF rs.length) (st0, l0)).1 w') := by
  have hlen := openFs_len fg g q rs
  have hmay := (mayB_all hE.may).2.2.2.1
  have hlt := hE.lt
  have key := all_any (σ := DkSt × LgSt) (OpR Wa F0 g p b l0) (OpF Wa F0 p b) (openFs fg g q rs) (openF rs.length) bb 0 c (by rw [openF_len, hlen]) (by omega)
    (fun i h => by
      match i, h with
      | 0, _ => exact hfg.ent
      | 1, _ => exact enters_of Tryz.func64 (by kernel_rfl) rfl
      | i + 2, h =>
        have e := openFs_at fg g q rs i h (by omega)
        rw [e]; exact enters_of Tryz.func65 (by kernel_rfl) rfl)
    (fun i h s W hR => hR.fr.cellAt (hrow i h) (fun e => by rcases e with e | e | e; exact hbb.1 e; exact hbb.2.1 e; exact hbb.2.2 e))
    (fun i s W W' hR hb => by
      obtain ⟨⟨F, h1, h2⟩, h3, h4, h5, h6⟩ := hR
      exact ⟨⟨F, h1.pure hb, h2⟩, h3.trans (Fr.pure hb), h4, h5, h6⟩)
    (fun i h h' s W hR => by
      obtain ⟨⟨F, h1, h2⟩, h3, h4, h5, h6⟩ := hR
      obtain ⟨st, l⟩ := s
      have hFp : ∀ k, (F k ∨ k = p ∨ k = b) → (F0 k ∨ k = p ∨ k = b) ∨ Wa.heap.size ≤ k := fun k hk => by
        rcases hk with hk | hk | hk
        · rcases h2 k hk with h | h
          · exact .inl (.inl h)
          · exact .inr h
        · exact .inl (.inr (.inl hk))
        · exact .inl (.inr (.inr hk))
      have hDp : ∀ k, (k = p ∨ k = b) → (F0 k ∨ k = p ∨ k = b) ∨ Wa.heap.size ≤ k := fun k hk => .inl (.inr hk)
      match i, h, h' with
      | 0, _, _ =>
        have hk : ∀ k, K k → W.heap[k]? = Wa.heap[k]? := fun k hk => h3.block k (hfg.lt k hk).1 (fun e => by rcases e with e | e | e; exact hK k hk e; exact (hfg.lt k hk).2.1 e; exact (hfg.lt k hk).2.2 e)
        refine (hfg.does st W h1.dk hk).mono ?_
        rintro e w' ⟨rfl, hd, hf⟩
        exact ⟨rfl, fun _ => ⟨⟨F, h1.disk hd hf, h2⟩, fr_more h3 hf hDp, h4, h5, fun _ => ⟨gone_keeps (h6 (by omega)).1 (by decide), gone_names (h6 (by omega)).2⟩⟩, fun _ => ⟨hd, fr_more h3 hf hDp⟩⟩
      | 1, _, _ =>
        have ho := h6 (Nat.le_refl 1)
        have hc := orphans_any W F g p b st l h1 (get_some_pos ho.1) ho.2
        refine Calls.mono (P := Tryz.prog) (f := 64) (by simpa [openFs] using hc) ?_
        rintro e w' ⟨rfl, hd, hf⟩
        have hlg : (orphF (st, l)).1.2 = l := orphF_log (st, l)
        refine ⟨rfl, fun _ => ⟨⟨F, ?_, h2⟩, fr_more h3 hf hDp, ?_, ?_, fun h => absurd h (by decide)⟩, fun _ => ⟨hd, fr_more h3 hf hDp⟩⟩
        · show OpEnv w' F g p b (orphF (st, l)).1.1 (orphF (st, l)).1.2
          rw [hlg]; exact h1.disk hd hf
        · show (orphF (st, l)).1.2.segs = l0.segs
          rw [hlg]; exact h4
        · show (orphF (st, l)).1.2.ix.length = 1 + 1 - 2
          rw [hlg]; exact h5
      | i + 2, h, h' =>
        have hi : i < rs.length := by omega
        have e := openFs_at fg g q rs i h hi
        have e2 := openF_at rs.length i h'
        rw [e, e2]
        obtain ⟨r1, r2, r3, r4⟩ := hrs i hi
        have h4' : l.segs = l0.segs := h4
        have h5' : l.ix.length = i + 2 - 2 := h5
        have hnot : ∀ k, ¬ F0 k → k ≠ p → k ≠ b → ¬ (F0 k ∨ k = p ∨ k = b) := fun k a1 a2 a3 e => by rcases e with e | e | e; exact a1 e; exact a2 e; exact a3 e
        have hc := open_act W q rs[i] F g p b st l h1 i (by rw [h4']; omega) (by omega) (h3.cellAt hq (hnot _ hqn.1 hqn.2.1 hqn.2.2)) (h3.cellAt r1 (hnot _ r2 r3 r4))
        refine Calls.mono (P := Tryz.prog) (f := 65) (by simpa using hc) ?_
        rintro e w' ⟨rfl, F', he, hf, hF'⟩
        obtain ⟨a1, a2, a3, a4⟩ := segF_left i st l
        refine ⟨rfl, fun hz => ⟨⟨F', he, fun k hk => ?_⟩, fr_more h3 hf hFp, a1.trans h4', ?_, fun h => absurd h (by omega)⟩, fun _ => ⟨he.dk, fr_more h3 hf hFp⟩⟩
        · rcases hF' k hk with h | h
          · exact h2 k h
          · exact .inr (Nat.le_trans h3.size h)
        · have := a4 hz; omega)
    Wa (st0, l0) ⟨⟨F0, hE, fun _ h => .inl h⟩, Fr.refl _ _, rfl, by simp [hix], fun _ => ⟨hfile, hne⟩⟩
  rw [hlen] at key
  exact key
end Go.Proofs.YtcdjckdbcffgdaaGreatDoor

/- The walk of seglog.Open. -/
namespace Go.Proofs.YtcdjckdbcffgdaaGreatDoor
open Go.RowKit Go.Shelf

theorem readF_may {s : List UInt8} (h : (readF s).2.2 = 0) : mayB (readF s).1 (readF s).2.1 = true := by
  unfold readF at h ⊢
  split at h
  · simp at h
  · split at h
    · rename_i h1 h2
      rw [if_neg h1, if_pos h2]
      cases hp : parseMan (s.take (s.length - 4)) with
      | none => rw [hp] at h; simp at h
      | some q =>
        obtain ⟨g, l⟩ := q
        exact (make_parse hp).1
    · simp at h
theorem loadF_may {st : DkSt} (h : (loadF st).2.2 = 0) : mayB (loadF st).1 (loadF st).2.1 = true ∧ (fsGet st.fs fileN).isSome = true := by
  unfold loadF at h ⊢
  split at h
  · rename_i h1; exact absurd h h1
  · rename_i h1
    rw [if_neg h1]
    refine ⟨readF_may h, ?_⟩
    have h2 : (dkRead st fileN).2 = 0 := by simpa using h1
    unfold dkRead at h2
    split at h2
    · simp at h2
    · cases hg : fsGet st.fs fileN with
      | none => rw [hg] at h2; simp at h2
      | some f => rfl

/-- A log as Open begins it. -/
theorem log_new {W : World} {g p : Nat} {c : Cfg} {gen : Int} {sv : Value} {segs : Segs} (hc : W.heap[g]? = some (.cells #[.pointer (some ⟨p, 0, none⟩), .int .i64 c.ss, .int .i64 c.ev, .int .u8 c.v, .int .i64 gen, sv, .slice none 0 0] 100 (0, 0)))
    (hs : OwnSegs W sv segs) (hne : sv.ownBlock ≠ some g) : IsLg W (fun k => k = g ∨ sv.ownBlock = some k) g p ⟨c, gen, segs, []⟩ := by
  refine ⟨sv, .slice none 0 0, [], fun k => k = g, ⟨hc, hs.at, fun k hk e => hne (by rw [hk, e]), World.ownsRow_nil _ _ _ _, rfl, fun i h => absurd h (Nat.not_lt_zero _), rfl, fun k hk => (by cases hk), fun x hx => (by simp at hx), List.Pairwise.nil, fun k hk => (by rw [hk]; exact lt_of_block hc)⟩, fun k hk => .inl hk, fun k hk => .inr hk, ?_⟩
  rintro k (rfl | hk)
  · exact lt_of_block hc
  · exact own_below hs hk

/-- The row of the steps while it is made. -/
structure OpRow (f : FnV) (g q : Nat) (w : World) (base : Nat) (v : Value) (rs : List Nat) : Prop where
  own : w.ownsRow base 88 1 v (rs.length + 2) ((openFs f g q rs).map funcV)
  box : ∀ i (h : i < rs.length), w.cell? ⟨rs[i], 0, none⟩ = some (.int .i64 (i : Int))
  apart : ∀ i (h : i < rs.length), base ≤ rs[i] ∧ v.ownBlock ≠ some rs[i]
theorem OpRow.pure {f : FnV} {g q : Nat} {w w' : World} {base : Nat} {v : Value} {rs : List Nat} (h : OpRow f g q w base v rs) (hb : Below w.heap.size w w') : OpRow f g q w' base v rs :=
  ⟨(Fr.pure (S := fun _ => False) hb).ownsRow h.own (fun _ _ h => h), fun i hi => (hb.cell (p := ⟨rs[i], 0, none⟩) (ltOfCell (h.box i hi))).trans (h.box i hi), h.apart⟩
theorem openFs_snoc (f : FnV) (g q : Nat) (rs : List Nat) (r : Nat) : (openFs f g q (rs ++ [r])).map funcV = (openFs f g q rs).map funcV ++ [.func (.func 65) #[] #[.pointer (some ⟨q, 0, none⟩), .pointer (some ⟨r, 0, none⟩)]] := by
  unfold openFs funcV; simp
theorem OpRow.more {f : FnV} {g q : Nat} {w w8 : World} {base : Nat} {v : Value} {rs : List Nat} (h : OpRow f g q w base v rs) (hb : base ≤ w.heap.size) {o : Obj} {gg n cap : Nat}
    (hg : ((w.alloc (.cells #[.int .i64 (rs.length : Int)] 3)).alloc o).grownBy w8 v.ownBlock) (hn : n = rs.length + 1 + 2)
    (hown : w8.ownsRow base 88 1 (.slice (some ⟨gg, 0, none⟩) n cap) n ((openFs f g q rs).map funcV ++ [.func (.func 65) #[] #[.pointer (some ⟨q, 0, none⟩), .pointer (some ⟨w.heap.size, 0, none⟩)]]))
    (hat : v.ownBlock = some gg ∨ gg = w.heap.size + 1 + 1) : OpRow f g q w8 base (.slice (some ⟨gg, 0, none⟩) n cap) (rs ++ [w.heap.size]) := by
  have hb2 : Below w.heap.size w ((w.alloc (.cells #[.int .i64 (rs.length : Int)] 3)).alloc o) := box2_below _ _ _
  have hvl : ∀ k, v.ownBlock = some k → k < w.heap.size := fun k hk => own_below h.own hk
  have up : ∀ k u, w.cell? ⟨k, 0, none⟩ = some u → v.ownBlock ≠ some k → w8.cell? ⟨k, 0, none⟩ = some u := fun k u hc hne => by
    have h1 := (hb2.cell (p := ⟨k, 0, none⟩) (ltOfCell hc)).trans hc
    exact (World.cell?_of_block (hg.block k (ltOfCell h1) (fun e => hne e.symm))).trans h1
  refine ⟨?_, fun i hi => ?_, fun i hi => ?_⟩
  · rw [openFs_snoc, List.length_append, List.length_singleton, ← hn]; exact hown
  · by_cases hc : i < rs.length
    · rw [List.getElem_append_left hc]; exact up _ _ (h.box i hc) (h.apart i hc).2
    · obtain rfl : i = rs.length := by simp at hi; omega
      rw [List.getElem_append_right (Nat.le_refl _)]
      simp only [Nat.sub_self, List.getElem_singleton]
      have h1 : ((w.alloc (.cells #[.int .i64 (rs.length : Int)] 3)).alloc o).cell? ⟨w.heap.size, 0, none⟩ = some (.int .i64 (rs.length : Int)) := by
        rw [World.cell?_alloc_past _ _ _ (by simp), World.cell?_alloc_at _ _ _ _ rfl]; rfl
      exact (World.cell?_of_block (hg.block w.heap.size (by simp; omega) (fun e => by have := hvl _ e.symm; omega))).trans h1
  · by_cases hc : i < rs.length
    · rw [List.getElem_append_left hc]
      have h1 := ltOfCell (h.box i hc)
      refine ⟨(h.apart i hc).1, fun e => ?_⟩
      have e2 : gg = rs[i] := Option.some.inj e
      rcases hat with h8 | h8
      · exact (h.apart i hc).2 (by rw [h8, e2])
      · omega
    · obtain rfl : i = rs.length := by simp at hi; omega
      rw [List.getElem_append_right (Nat.le_refl _)]
      simp only [Nat.sub_self, List.getElem_singleton]
      refine ⟨hb, fun e => ?_⟩
      have e2 : gg = w.heap.size := Option.some.inj e
      rcases hat with h8 | h8
      · have := hvl _ h8; omega
      · omega
theorem OpRow.at {f : FnV} {g q : Nat} {w : World} {base : Nat} {v : Value} {rs : List Nat} (h : OpRow f g q w base v rs) :
    ∃ bb c, v = .slice (some ⟨bb, 0, none⟩) (rs.length + 2) c ∧ base ≤ bb ∧ ∀ i (hi : i < (openFs f g q rs).length), w.cell? ⟨bb, 0 + i, none⟩ = some (funcV (openFs f g q rs)[i]) := by
  obtain ⟨_, ⟨_, h1⟩ | ⟨b, c, cur, rfl, hg, hb, hc1, _, hc3, hc4⟩⟩ := h.own
  · omega
  · refine ⟨b, c, rfl, hg, fun i hi => ?_⟩
    rw [openFs_len] at hi
    rw [Nat.zero_add, cell_of_row _ _ _ _ _ _ hb]
    have hh : (cur.toList.take ((rs.length + 2) * 1))[i]? = ((openFs f g q rs).map funcV)[i]? := by rw [hc4]
    rw [List.getElem?_take_of_lt (by omega), List.getElem?_map, List.getElem?_eq_getElem (l := openFs f g q rs) (by rw [openFs_len]; omega)] at hh
    simpa [hc3] using hh

theorem heldU_drew {W0 W : World} {g k : Nat} {v : Value} (h : W.cell? ⟨g, k, none⟩ = some v ∧ Below W0.heap.size W0 W) : W.drew.cell? ⟨g, k, none⟩ = some v ∧ Below W0.heap.size W0 W.drew := ⟨h.1, h.2.drew⟩
theorem heldU_alloc {W0 W : World} {g k : Nat} {v : Value} (h : W.cell? ⟨g, k, none⟩ = some v ∧ Below W0.heap.size W0 W) (o : Obj) : (W.alloc o).cell? ⟨g, k, none⟩ = some v ∧ Below W0.heap.size W0 (W.alloc o) :=
  ⟨by rw [World.cell?_alloc_past _ _ _ (ltOfCell h.1)]; exact h.1, h.2.alloc h.2.size o⟩
theorem heldU_call {W0 W W' : World} {g k : Nat} {v : Value} (h : W.cell? ⟨g, k, none⟩ = some v ∧ Below W0.heap.size W0 W) (hb : Below W.heap.size W W') : W'.cell? ⟨g, k, none⟩ = some v ∧ Below W0.heap.size W0 W' :=
  ⟨(hb.cell (ltOfCell h.1)).trans h.1, h.2.trans (hb.mono h.2.size)⟩

set_option maxRecDepth 100000 in
set_option maxHeartbeats 2000000 in
theorem open_bad (w : World) (p b : Nat) (st : DkSt) (hd : IsDk w p b st) (c : Cfg) (h0 : 0 ≤ c.v) (h1 : c.v ≤ 255) (hc : cfgOk c = false) :
    Calls Tryz.prog 19 #[.pointer (some ⟨p, 0, none⟩), .agg #[.int .i64 c.ss, .int .i64 c.ev, .int .u8 c.v]] w fun e w' => InitPost p b (lgOpen st c) w e w' := by
  have ho : lgOpen st c = (st, 1, none) := by unfold lgOpen; rw [if_pos hc]
  have HD := Lib.hid hd
  have HC := Lib.hid hc
  have HO := Lib.hid ho
  have hb1 : Below w.heap.size w (w.alloc (.cells #[.int .i64 c.ss, .int .i64 c.ev, .int .u8 c.v] 23)) := (Below.refl _ _).alloc (Nat.le_refl _) _
  have HB := Lib.hid hb1
  clear hd hc ho hb1
  go_enter Tryz.func19, Tryz.ntmps19
  go_wp2_with (go_at_call 20; refine (mayConfig_any _ c h0 h1).mono ?_; rintro e w2 ⟨rfl, hb2⟩; rw [HC.out]; have HB2 := Lib.hid (HB.out.trans (hb2.mono HB.out.size)); clear hb2)
  refine bodyPost_ret (v := .tuple #[.pointer none, .int .i64 1]) (by simp [results, Tryz.results19, go_sem]) rfl ?_
  rw [HO.out]
  exact ⟨HD.out.pure HB2.out, Fr.pure HB2.out, rfl⟩

set_option maxRecDepth 100000 in
set_option maxHeartbeats 1500000 in
theorem open_go (w : World) (hl : Libs w) (p b : Nat) (st : DkSt) (hd : IsDk w p b st) (hlb : ¬ LibB p ∧ ¬ LibB b) (hne : ∀ f ∈ st.fs, 1 ≤ f.name.length) (c : Cfg) (h0 : 0 ≤ c.v) (h1 : c.v ≤ 255) (hc : cfgOk c = true) :
    Calls Tryz.prog 19 #[.pointer (some ⟨p, 0, none⟩), .agg #[.int .i64 c.ss, .int .i64 c.ev, .int .u8 c.v]] w fun e w' => InitPost p b (lgOpen st c) w e w' := by
  have HD := Lib.hid hd
  have HC := Lib.hid hc
  have HL := Lib.hid hl
  have HNE := Lib.hid hne
  have HLB := Lib.hid hlb
  have hpl := hd.lt
  have hbl := hd.own.lt
  obtain ⟨w1, hw1⟩ : ∃ w1, w1 = w.alloc (.cells #[.int .i64 c.ss, .int .i64 c.ev, .int .u8 c.v] 23) := ⟨_, rfl⟩
  have hb1 : Below w.heap.size w w1 := by rw [hw1]; exact (Below.refl _ _).alloc (Nat.le_refl _) _
  have hk : w1.heap[w.heap.size]? = some (.cells #[.int .i64 c.ss, .int .i64 c.ev, .int .u8 c.v] 23 (0, 0)) := by rw [hw1]; exact heap_alloc_new _ _
  have k0 : w1.cell? ⟨w.heap.size, 0, none⟩ = some (.int .i64 c.ss) := (cell_of_row _ _ _ _ _ _ hk).trans rfl
  have k1 : w1.cell? ⟨w.heap.size, 1, none⟩ = some (.int .i64 c.ev) := (cell_of_row _ _ _ _ _ _ hk).trans rfl
  have k2 : w1.cell? ⟨w.heap.size, 2, none⟩ = some (.int .u8 c.v) := (cell_of_row _ _ _ _ _ _ hk).trans rfl
  have HB1 := Lib.hid hb1
  clear hd hc hl hne hlb hb1 hk
  have hmf : ∀ (fn : Fn) (first cap : Array Value) (w : World), (Instr.makeFunc fn first cap).run Tryz.prog w = .ok (.func fn first cap) w := fun _ _ _ _ => rfl
  go_enter Tryz.func19, Tryz.ntmps19
  go_wp2_with (go_at_call 20; rw [← hw1]; clear hw1; refine (mayConfig_any _ c h0 h1).mono ?_; rintro e w2 ⟨rfl, hb2⟩; rw [HC.out]; have HB2 := Lib.hid (HB1.out.trans (hb2.mono HB1.out.size)); have k0 := (hb2.cell (p := ⟨w.heap.size, 0, none⟩) (ltOfCell k0)).trans k0; have k1 := (hb2.cell (p := ⟨w.heap.size, 1, none⟩) (ltOfCell k1)).trans k1; have k2 := (hb2.cell (p := ⟨w.heap.size, 2, none⟩) (ltOfCell k2)).trans k2; clear hb2)
  refine (man_load w2 p b st (HD.out.pure HB2.out)).mono ?_
  rintro e w3 ⟨hb3, sv, rfl, hown, hvb⟩
  have HB3 := Lib.hid (HB2.out.trans (hb3.mono HB2.out.size))
  have k0 := (hb3.cell (p := ⟨w.heap.size, 0, none⟩) (ltOfCell k0)).trans k0
  have k1 := (hb3.cell (p := ⟨w.heap.size, 1, none⟩) (ltOfCell k1)).trans k1
  have k2 := (hb3.cell (p := ⟨w.heap.size, 2, none⟩) (ltOfCell k2)).trans k2
  have HOWN := Lib.hid hown
  have HVB := Lib.hid (show ∀ j, sv.ownBlock = some j → w.heap.size ≤ j from fun j h => Nat.le_trans HB2.out.size (hvb j h))
  clear hb3 hown hvb
  obtain ⟨sa, sn, sc, rfl⟩ := own_shape HOWN.out
  by_cases hz : (loadF st).2.2 = 0
  rotate_left
  · have ho : lgOpen st c = (st, (loadF st).2.2, none) := by unfold lgOpen; rw [if_neg (by rw [HC.out]; decide), if_pos hz]
    have HO := Lib.hid ho
    have hzb : ((loadF st).2.2 == 0) = false := by simpa using hz
    have hzn : ((loadF st).2.2 != 0) = true := by simpa using hz
    clear ho
    generalize (loadF st).2.2 = E at *
    go_wp2
    refine bodyPost_ret (v := .tuple #[.pointer none, .int .i64 E]) (by simp [results, Tryz.results19, go_sem]) rfl ?_
    rw [HO.out]
    have hbn := (Below.refl w3.heap.size w3).alloc (Nat.le_refl _) (.cells #[.int .i64 (loadF st).1, .slice sa sn sc] 38)
    exact ⟨HD.out.pure (HB3.out.trans (hbn.mono HB3.out.size)), Fr.pure (HB3.out.trans (hbn.mono HB3.out.size)), rfl⟩
  · obtain ⟨hmay, hfile⟩ := loadF_may hz
    have HMAY := Lib.hid hmay
    have HFILE := Lib.hid hfile
    obtain ⟨gen, hgen⟩ : ∃ g, g = (loadF st).1 := ⟨_, rfl⟩
    obtain ⟨segs, hsegs⟩ : ∃ s, s = (loadF st).2.1 := ⟨_, rfl⟩
    have hlen : segs.length ≤ 64 := by rw [hsegs]; exact (mayB_all hmay).2.2.2.1
    have ho : lgOpen st c = if (runL (openF segs.length) (st, (⟨c, gen, segs, []⟩ : LgSt))).2 ≠ 0 then ((runL (openF segs.length) (st, (⟨c, gen, segs, []⟩ : LgSt))).1.1, (runL (openF segs.length) (st, (⟨c, gen, segs, []⟩ : LgSt))).2, none)
        else ((runL (openF segs.length) (st, (⟨c, gen, segs, []⟩ : LgSt))).1.1, 0, some (runL (openF segs.length) (st, (⟨c, gen, segs, []⟩ : LgSt))).1.2) := by
      unfold lgOpen; rw [if_neg (by rw [HC.out]; decide), if_neg (by rw [hz]; decide), hgen, hsegs]
    have HO := Lib.hid ho
    rw [hz]
    rw [← hgen]
    rw [← hgen, ← hsegs] at HMAY
    rw [← hsegs] at HOWN
    clear ho hgen hsegs hmay hfile hz
    obtain rfl : sn = segs.length := by obtain ⟨a', c', e, _⟩ := HOWN.out.at; cases e; rfl
    have hlt3 : w.heap.size < w3.heap.size := ltOfCell k0
    go_wp2_with fail
    obtain ⟨W, hW⟩ : ∃ W, W = ((w3.alloc (.cells #[.int .i64 gen, .slice sa segs.length sc] 38)).alloc (.cells #[.pointer (some ⟨p, 0, none⟩), .int .i64 c.ss, .int .i64 c.ev, .int .u8 c.v, .int .i64 gen, .slice sa segs.length sc, .slice none 0 0] 100)).alloc (.cells #[.pointer (some ⟨w3.heap.size + 1, 0, none⟩)] 30) := ⟨_, rfl⟩
    obtain ⟨mb, hmb⟩ : ∃ mb, mb = w3.heap.size := ⟨_, rfl⟩
    have hWs : W.heap.size = mb + 3 := by rw [hW, hmb]; simp
    have hbW : Below w3.heap.size w3 W := by rw [hW]; exact ((Below.refl _ _).alloc (Nat.le_refl _) _).alloc (by simp) _ |>.alloc (by simp; omega) _
    have hgc : W.heap[mb + 1]? = some (.cells #[.pointer (some ⟨p, 0, none⟩), .int .i64 c.ss, .int .i64 c.ev, .int .u8 c.v, .int .i64 gen, .slice sa segs.length sc, .slice none 0 0] 100 (0, 0)) := by
      rw [hW, hmb]; exact (Below.heap_alloc _ _ _ (by simp)).trans (alloc_at_top _ _ (by simp))
    have hmc : W.heap[mb]? = some (.cells #[.int .i64 gen, .slice sa segs.length sc] 38 (0, 0)) := by
      rw [hW, hmb]; exact (Below.heap_alloc _ _ _ (by simp; omega)).trans ((Below.heap_alloc _ _ _ (by simp)).trans (heap_alloc_new _ _))
    have hqc : W.cell? ⟨mb + 1 + 1, 0, none⟩ = some (.pointer (some ⟨mb + 1, 0, none⟩)) := by
      rw [hW, hmb, World.cell?_alloc_at _ _ _ _ (by simp)]; rfl
    rw [← hW, ← hmb]
    have HBW := Lib.hid (HB3.out.trans (hbW.mono HB3.out.size))
    have HOW := Lib.hid (show OwnSegs W (.slice sa segs.length sc) segs from (Fr.pure (S := fun _ => False) hbW).ownsRow HOWN.out (fun _ _ h => h))
    have HGC := Lib.hid hgc
    have HMC := Lib.hid hmc
    have HSB := Lib.hid (show ∀ k, (Value.slice sa segs.length sc).ownBlock = some k → k < mb from fun k hk => by rw [hmb]; exact own_below HOWN.out hk)
    have hmw : w.heap.size < mb := by rw [hmb]; exact hlt3
    clear hW hmb hbW hgc hmc hlt3 k0 k1 k2
    go_region_held3 (fun w' => w'.cell? ⟨mb + 1 + 1, 0, none⟩ = some (.pointer (some ⟨mb + 1, 0, none⟩)) ∧ Below W.heap.size W w') (first | exact xS | exact ⟨hqc, (Below.refl _ _).drew⟩ | exact heldU_alloc (by assumption) _ | exact heldU_drew (by assumption) | fail) (first
      | (go_at_call 41; have hh := ‹_ ∧ Below W.heap.size W _›; have hsz5 := hh.2.size; refine (gone_any _ p ⟨#[77, 65, 78, 73, 70, 69, 83, 84, 46, 110, 101, 119]⟩ (by decide) (by omega) b (by omega)).mono ?_; rintro e w5 ⟨f, K5, rfl, hb5, hst, hk5⟩; have xS := heldU_call hh hb5; have HST := Lib.hid hst; have HK5 := Lib.hid (fun k hk => Nat.le_trans hsz5 (hk5 k hk)); clear hst hk5 hb5 hsz5))
    all_goals
      have hh := ‹_ ∧ Below W.heap.size W _›
      obtain ⟨w6, hw6⟩ : ∃ w6, w6 = w5.alloc (.cells #[funcV f, .func (.func 64) #[.pointer (some ⟨mb + 1, 0, none⟩)] #[]] 88) := ⟨_, rfl⟩
      obtain ⟨rb, hrb⟩ : ∃ rb, rb = w5.heap.size := ⟨_, rfl⟩
      have hb56 : Below w5.heap.size w5 w6 := by rw [hw6]; exact (Below.refl _ _).alloc (Nat.le_refl _) _
      have hrow6 : OpRow f (mb + 1) (mb + 1 + 1) w6 rb (.slice (some ⟨rb, 0, none⟩) 2 2) [] := ⟨by
        rw [hw6, hrb]
        exact World.ownsRow_lit (size := 1) w5 #[funcV f, .func (.func 64) #[.pointer (some ⟨mb + 1, 0, none⟩)] #[]] 2 (Nat.le_refl _) (by decide) rfl, fun i h => absurd h (Nat.not_lt_zero _), fun i h => absurd h (Nat.not_lt_zero _)⟩
      have hw6s : w6.heap.size = rb + 1 := by rw [hw6, hrb]; simp
      have hWrb : W.heap.size ≤ rb := by rw [hrb]; first | exact xS.2.size | exact ‹_ ∧ Below W.heap.size W w5›.2.size
      have HKL := Lib.hid (show ∀ k, K5 k → k < rb from fun k hk => by rw [hrb]; exact (HST.out.lt k hk).1)
      rw [← hw6] at hh ⊢
      rw [← hrb]
      have HROW := Lib.hid hrow6
      have HST6 := Lib.hid (HST.out.pure hb56)
      have HH := Lib.hid hh
      clear hw6 hrb hb56 hrow6 HST hh
      have HM0 := Lib.hid ((cell_of_row _ _ 0 _ _ _ HMC.out).trans (show (#[.int .i64 gen, .slice sa segs.length sc] : Array Value)[0]? = _ from rfl))
      have hm1 := (HH.out.2.cell (p := ⟨mb, 1, none⟩) (show mb < W.heap.size by omega)).trans ((cell_of_row _ _ 1 _ _ _ HMC.out).trans (show (#[.int .i64 gen, .slice sa segs.length sc] : Array Value)[1]? = some (.slice sa segs.length sc) from rfl))
      go_wp2_with fail
      go_loopw [9, 41] (fun lv i wr => ∃ (k : Nat) (rs : List Nat), i = .int .i64 (k : Int) ∧ k ≤ segs.length ∧ rs.length = k ∧ Hid (OpRow f (mb + 1) (mb + 1 + 1) wr rb lv rs) ∧ Hid (Below rb w6 wr)) (fun _ i _ => segs.length - (intOf i).toNat)
      case atStart => exact ⟨0, [], rfl, by omega, rfl, HROW, Lib.hid (Below.refl _ _)⟩
      case round =>
        obtain ⟨k, rs, rfl, hk, hrl, HR, HB6⟩ := hrel
        subst hrl
        have hs6 := HH.out.2.size
        have hsr := HB6.out.size
        obtain ⟨a0, n0, c0, rfl⟩ := own_shape HR.out.own
        by_cases hlt : rs.length < segs.length
        · have HO6 := Lib.hid (World.ownsRow.alloc (World.ownsRow.alloc (HR.out.own : wr.ownsRow rb 88 1 (.slice a0 n0 c0) (rs.length + 2) ((openFs f (mb + 1) (mb + 1 + 1) rs).map funcV)) (.cells #[.int .i64 (rs.length : Int)] 3)) (.cells #[.func (.func 65) #[] #[.pointer (some ⟨mb + 1 + 1, 0, none⟩), .pointer (some ⟨wr.heap.size, 0, none⟩)]] 88))
          obtain ⟨i0, hi, hz0, hz1, hz2⟩ := info_parts Tryz.infoStep
          have HI := Lib.hid hi
          have HZ0 := Lib.hid hz0
          have HZ1 := Lib.hid hz1
          have HZ2 := Lib.hid hz2
          clear hi hz0 hz1 hz2
          go_wp2_with (first
            | (refine wpList_append_lies _ rfl _ _ 86 rfl rb 88 i0 _ 1 8 Tryz.underlying86 HI.out HZ0.out HZ1.out HZ2.out rfl (by omega) _ (rs.length + 2) _ rfl HO6.out ⟨wr.heap.size + 1, 0, none⟩ 1 1 [.func (.func 65) #[] #[.pointer (some ⟨mb + 1 + 1, 0, none⟩), .pointer (some ⟨wr.heap.size, 0, none⟩)]] rfl rfl (cells_new rfl (by simp)) (by simp [Value.oneCell']) (by omega) (by unfold maxLen; omega) (by omega) (by simp; omega) (wr.heap.size + 1 + 1) (by simp) ?_; intro gg cap w8 hown8 hgrow8 hat8 hlt8))
          have hb8 : Below rb w6 w8 := ((HB6.out.alloc (by omega) (.cells #[.int .i64 (rs.length : Int)] 3)).alloc (by simp; omega) (.cells #[.func (.func 65) #[] #[.pointer (some ⟨mb + 1 + 1, 0, none⟩), .pointer (some ⟨wr.heap.size, 0, none⟩)]] 88)).grown hgrow8 (by simp; omega) (fun j e => own_ge HR.out.own (by exact e))
          refine ⟨⟨rs.length + 1, rs ++ [wr.heap.size], by go_num, by omega, by simp, Lib.hid (HR.out.more (by omega) hgrow8 (by omega) hown8 (hat8.imp id fun e => by simpa using e)), Lib.hid hb8⟩, ?_⟩
          simp [intOf]; omega
        · have hrs : rs.length = segs.length := by omega
          obtain ⟨bb, cc, hlv, hbb, hrowc⟩ := HR.out.at
          cases hlv
          obtain ⟨l0, hl0⟩ : ∃ l0 : LgSt, l0 = ⟨c, gen, segs, []⟩ := ⟨_, rfl⟩
          have hbr : Below W.heap.size W wr := HH.out.2.trans (HB6.out.mono hWrb)
          have HBR := Lib.hid (HBW.out.trans (hbr.mono HBW.out.size))
          have hF : ∀ k, (k = mb + 1 ∨ (Value.slice sa segs.length sc).ownBlock = some k) → w.heap.size ≤ k ∧ k < mb + 2 := fun k hk => by
            rcases hk with rfl | hk
            · omega
            · have h1 := HSB.out k hk; have h2 := HVB.out k hk; omega
          have hE : OpEnv wr (fun k => k = mb + 1 ∨ (Value.slice sa segs.length sc).ownBlock = some k) (mb + 1) p b st l0 := by
            rw [hl0]
            exact ⟨(log_new HGC.out HOW.out (fun e => by have := HSB.out _ e; omega)).pure hbr, HD.out.pure HBR.out, HL.out.pure HBR.out, HMAY.out, HC.out, fun k hk => by
              have := hF k hk
              exact ⟨by omega, by omega, fun e => by have := HL.out.lt k e; omega⟩, HLB.out⟩
          have hfg : DkStep p b wr K5 f (goneF freshN) := HST6.out.keep hsr (fun k hk => HB6.out.block k (HKL.out k hk))
          have hnew : ∀ k, mb + 2 ≤ k → ¬ (k = mb + 1 ∨ (Value.slice sa segs.length sc).ownBlock = some k) ∧ k ≠ p ∧ k ≠ b := fun k hk => ⟨fun e => by have := hF k e; omega, by omega, by omega⟩
          have hq9 : wr.cell? ⟨mb + 1 + 1, 0, none⟩ = some (.pointer (some ⟨mb + 1, 0, none⟩)) := (hbr.cell (p := ⟨mb + 1 + 1, 0, none⟩) (show mb + 1 + 1 < W.heap.size by omega)).trans hqc
          have hall := open_all wr (fun k => k = mb + 1 ∨ (Value.slice sa segs.length sc).ownBlock = some k) (mb + 1) p b st l0 hE (by rw [hl0]) HFILE.out HNE.out f K5 hfg (fun k hk => (hnew k (by have := HK5.out k hk; omega)).1) (mb + 1 + 1) hq9 (hnew _ (by omega)) rs (by rw [hl0]; exact hrs)
            (fun i h => ⟨HR.out.box i h, hnew _ (by have := (HR.out.apart i h).1; omega)⟩) bb c0 (hnew _ (by omega)) hrowc
          have HALL := Lib.hid hall
          have HF := Lib.hid hF
          have HQN := Lib.hid (hnew (mb + 1 + 1) (by omega))
          have HQ9 := Lib.hid hq9
          have hgt : decide ((rs.length : Int) < (segs.length : Int)) = false := by simp; omega
          have HRS := Lib.hid hrs
          clear hall hF hnew hE hfg hrowc hq9 hrs
          go_wp2_with fail
          refine HALL.out.mono ?_
          rintro e w9 ⟨rfl, hok, hbad⟩
          have hO := HO.out
          rw [← hl0, ← HRS.out] at hO
          have HOK := Lib.hid hok
          have HBAD := Lib.hid hbad
          have HOO := Lib.hid hO
          clear hok hbad hO
          obtain ⟨R, hR⟩ : ∃ R, R = runL (openF rs.length) (st, l0) := ⟨_, rfl⟩
          rw [← hR] at HOK HBAD HOO ⊢
          have hT : ∀ k, ((k = mb + 1 ∨ (Value.slice sa segs.length sc).ownBlock = some k) ∨ k = p ∨ k = b) → (k = p ∨ k = b) ∨ w.heap.size ≤ k := fun k hk => by
            rcases hk with hk | hk
            · exact .inr (HF.out k hk).1
            · exact .inl hk
          have HT := Lib.hid hT
          clear hT hR
          by_cases hz : R.2 = 0
          · have hRk := HOK.out hz
            have HRK := Lib.hid hRk
            have hq9 := hRk.fr.cellAt HQ9.out (fun e => by rcases e with e | e | e; exact HQN.out.1 e; exact HQN.out.2.1 e; exact HQN.out.2.2 e)
            have HZ := Lib.hid hz
            rw [hz]
            clear hRk hz
            go_wp2
            refine bodyPost_ret (v := .tuple #[.pointer (some ⟨mb + 1, 0, none⟩), .int .i64 0]) (by simp [results, Tryz.results19, go_sem]) rfl ?_
            rw [HOO.out, if_neg (by rw [HZ.out]; simp)]
            obtain ⟨⟨F, he, hF9⟩, hfr, _⟩ := HRK.out
            refine ⟨he.dk, fr_more (Fr.pure HBR.out) hfr HT.out, mb + 1, F, he.lg, fun k hk => ?_, rfl⟩
            rcases hF9 k hk with h | h
            · exact (HF.out k h).1
            · exact Nat.le_trans HBR.out.size h
          · have HRK := Lib.hid (HBAD.out hz)
            have HZ := Lib.hid hz
            have hzb : (R.2 == 0) = false := by simpa using hz
            have hzn : (R.2 != 0) = true := by simpa using hz
            generalize hE2 : R.2 = E at *
            go_wp2
            refine bodyPost_ret (v := .tuple #[.pointer none, .int .i64 E]) (by simp [results, Tryz.results19, go_sem]) rfl ?_
            rw [HOO.out, if_pos HZ.out]
            exact ⟨HRK.out.1, fr_more (Fr.pure HBR.out) HRK.out.2 HT.out, rfl⟩
end Go.Proofs.YtcdjckdbcffgdaaGreatDoor
