/- Contracts of manif in one form each, and what a swap and a crash leave, in one law: whatever the law. -/
import Derived.Test.YtppghhophaobdaaGreatDoorWhP
import Derived.Test.YtppghhophaobdaaGreatDoorManP
import Derived.Test.YtppghhophaobdaaGreatDoorDk12
import Derived.Deep.RegionWith
namespace Go.Proofs.YtppghhophaobdaaGreatDoor
open Go.RowKit Go.Maps Go.Sort

theorem sealed_seal (l : List UInt8) : Sealed (Crc.seal_ l) := by
  refine ⟨by rw [Crc.seal_length]; omega, ?_⟩
  rw [Crc.seal_length, show l.length + 4 - 4 = l.length from by omega]
  unfold Crc.seal_
  rw [List.take_left']
  rfl
theorem read_seal (w : World) (s : ByteArray) (g : Int) (l : Segs) (hs : s.data.toList = Crc.seal_ (manBytes g l)) (hm : mayB g l = true) :
    Calls Tryz.prog 53 #[.string s] w fun e w' => Below w.heap.size w w' ∧ ∃ v, OwnSegs w' v l ∧ (∀ b, v.ownBlock = some b → w.heap.size ≤ b) ∧ e = .returned (.tuple #[.agg #[.int .i64 g, v], .int .i64 0]) := by
  obtain ⟨_, _, _, hl1, _⟩ := mayB_all hm
  have hsz : s.size = 18 + 16 * l.length := by rw [size_of_list hs, Crc.seal_length, manBytes_length]; omega
  refine (read_any s w (by omega) (by rw [hs]; exact sealed_seal _) (manBytes g l) (by rw [hs, hsz]; unfold Crc.seal_; rw [List.take_left']; rw [manBytes_length]; omega)).mono ?_
  intro e w' h
  unfold ReadPost at h
  rw [parse_make hm] at h
  exact h



def ReadLaw (s : ByteArray) (w : World) (e : Ending) (w' : World) : Prop :=
  Below w.heap.size w w' ∧ ((∃ c : Int, c ≠ 0 ∧ e = .returned (.tuple #[noMan, .int .i64 c])) ∨
    ∃ (g : Int) (l : Segs) (v : Value), mayB g l = true ∧ s.data.toList = Crc.seal_ (manBytes g l) ∧ OwnSegs w' v l ∧ e = .returned (.tuple #[.agg #[.int .i64 g, v], .int .i64 0]))

theorem read_law (s : ByteArray) (w : World) (hs : s.size ≤ 1099511627776) : Calls Tryz.prog 53 #[.string s] w fun e w' => ReadLaw s w e w' := by
  by_cases h4 : s.size < 4
  · refine (read_short s w h4).mono ?_
    intro e w' h
    exact ⟨h.2, .inl ⟨_, by decide, h.1⟩⟩
  · by_cases hS : Sealed s.data.toList
    · refine (read_any s w hs hS _ rfl).mono ?_
      intro e w' h
      unfold ReadPost at h
      obtain ⟨hb, h⟩ := h
      refine ⟨hb, ?_⟩
      cases hp : parseMan (s.data.toList.take (s.size - 4)) with
      | none => rw [hp] at h; exact .inl ⟨_, by decide, h⟩
      | some q =>
        obtain ⟨g, l⟩ := q
        rw [hp] at h
        obtain ⟨v, hv, _, he⟩ := h
        obtain ⟨hm, hb2⟩ := make_parse hp
        refine .inr ⟨g, l, v, hm, ?_, hv, he⟩
        rw [hb2]
        have := hS.2
        rw [size_toList] at this
        exact this.symm
    · refine (read_sum s w (by omega) (by unfold maxLen; omega) hS).mono ?_
      intro e w' h
      exact ⟨h.2, .inl ⟨_, by decide, h.1⟩⟩


theorem OwnSegs.pure {w w' : World} {v : Value} {l : Segs} (h : OwnSegs w v l) (hb : Below w.heap.size w w') : OwnSegs w' v l := (Fr.pure (S := fun _ => False) hb).ownsRow h (fun _ _ h => h)
theorem may_len {g : Int} {l : Segs} (h : mayB g l = true) : l.length ≤ 64 := (mayB_all h).2.2.2.1


def wantL (g : Int) (m : Segs) : List UInt8 := if mayB g m then Crc.seal_ (manBytes g m) else []
def wantC (g : Int) (m : Segs) : Int := if mayB g m then 0 else 4

theorem make_any (w : World) (g : Int) (sv : Value) (l : Segs) (hs : SegsAt w sv l) (hl : l.length ≤ 1099511627776) :
    Calls Tryz.prog 51 #[.agg #[.int .i64 g, sv]] w fun e w' => TextPost (wantL g l, wantC g l) w e w' := by
  unfold wantL wantC
  cases hm : mayB g l
  · exact (make_bad w g sv l hs hl hm).mono fun e w' ⟨h1, h2⟩ => ⟨⟨⟨#[]⟩, rfl, h1⟩, h2⟩
  · exact (make_ok w g sv l hs hm).mono fun e w' ⟨r, h1, h2, h3⟩ => ⟨⟨r, h1, h2⟩, h3⟩
theorem swap_any (w : World) (p b : Nat) (st : DkSt) (h : IsDk w p b st) (g : Int) (sv : Value) (l : Segs) (hs : SegsAt w sv l) (hl : l.length ≤ 1099511627776) :
    Calls Tryz.prog 14 #[.pointer (some ⟨p, 0, none⟩), .agg #[.int .i64 g, sv]] w fun e w' => OpPost p b (dkSwap st g l) w e w' := by
  cases hm : mayB g l
  · refine (swap_bad w p g sv l hs hl hm).mono fun e w' ⟨h1, h2⟩ => ?_
    rw [show dkSwap st g l = (st, 4) from by unfold dkSwap; rw [hm]; rfl]
    exact ⟨h1, h.pure h2, Fr.pure h2⟩
  · exact swap_ok w p b st h g sv l hs hl hm

/-- A manifest, told with a code. -/
def ManPost (P : Int → Segs → Int → Prop) (w : World) (e : Ending) (w' : World) : Prop :=
  Below w.heap.size w w' ∧ ∃ cd g l v, P g l cd ∧ OwnSegs w' v l ∧ (∀ b, v.ownBlock = some b → w.heap.size ≤ b) ∧ e = .returned (.tuple #[.agg #[.int .i64 g, v], .int .i64 cd])

set_option maxRecDepth 100000 in
set_option maxHeartbeats 1000000 in
theorem load_any (w : World) (p b : Nat) (st : DkSt) (h : IsDk w p b st) (P : Int → Segs → Int → Prop)
    (hrd : (dkRead st fileN).2 = 0 → ∀ (s : ByteArray) (W : World), s.data.toList = (dkRead st fileN).1 → Calls Tryz.prog 53 #[.string s] W (ManPost P W)) (hno : (dkRead st fileN).2 ≠ 0 → P 0 [] (dkRead st fileN).2) :
    Calls Tryz.prog 20 #[.pointer (some ⟨p, 0, none⟩)] w (ManPost P w) := by
  have H := Lib.hid h
  have HR := Lib.hid hrd
  have HN := Lib.hid hno
  clear h hrd hno
  go_enter Tryz.func20, Tryz.ntmps20
  go_wp2_with fail
  refine (show Calls Tryz.prog 56 #[.pointer (some ⟨p, 0, none⟩), .string ⟨#[77, 65, 78, 73, 70, 69, 83, 84]⟩] _ fun e w' => TextPost (dkRead st fileN) _ e w' from dk_read _ p b st (H.out.pure ((Below.refl _ _).alloc (Nat.le_refl _) _)) ⟨#[77, 65, 78, 73, 70, 69, 83, 84]⟩ (by decide)).mono ?_
  rintro e w1 ⟨⟨s, hs, rfl⟩, hb1⟩
  have HS := Lib.hid hs
  have B1 := Lib.hid ((((Below.refl w.heap.size w).alloc (Nat.le_refl _) _)).trans (hb1.mono (by simp)))
  have hbox : w1.heap[w.heap.size]? = some (.cells #[.int .i64 0, .slice none 0 0] 40 (0, 0)) := (hb1.block _ (by simp)).trans (alloc_at_top _ _ rfl)
  clear hs hb1
  obtain ⟨cd, hcd⟩ : ∃ cd, cd = (dkRead st fileN).2 := ⟨_, rfl⟩
  rw [← hcd]
  have HCD := Lib.hid hcd
  clear hcd
  have c0 : w1.cell? ⟨w.heap.size, 0, none⟩ = some (.int .i64 0) := by rw [cell_of_row _ _ _ _ _ _ hbox]; rfl
  have c1 : w1.cell? ⟨w.heap.size, 1, none⟩ = some (.slice none 0 0) := by rw [cell_of_row _ _ _ _ _ _ hbox]; rfl
  have z : ∀ j : Nat, w1.frozen? ⟨w.heap.size, j, none⟩ = false := fun j => frozen_of_row _ _ _ _ _ hbox
  by_cases h0 : cd = 0
  · obtain rfl : cd = 0 := h0
    have HBX := Lib.hid hbox
    clear hbox
    go_wp2_with fail
    refine (HR.out (by rw [← HCD.out]) s w1 HS.out).mono ?_
    rintro e w2 ⟨hb2, cd, g, l, v, hP, hv, hvb, rfl⟩
    have B2 := Lib.hid (B1.out.trans (hb2.mono B1.out.size))
    have HQ := Lib.hid (And.intro hP (And.intro hv hvb))
    have hlt : w.heap.size < w1.heap.size := lt_of_block HBX.out
    have hbox := (hb2.block _ hlt).trans HBX.out
    obtain ⟨a2, n2, c2, rfl⟩ := own_shape hv
    have e0 : w2.cell? ⟨w.heap.size, 0, none⟩ = some (.int .i64 0) := by rw [cell_of_row _ _ _ _ _ _ hbox]; rfl
    have e1 : w2.cell? ⟨w.heap.size, 1, none⟩ = some (.slice none 0 0) := by rw [cell_of_row _ _ _ _ _ _ hbox]; rfl
    have z2 : ∀ j : Nat, w2.frozen? ⟨w.heap.size, j, none⟩ = false := fun j => frozen_of_row _ _ _ _ _ hbox
    clear hb2 hP hv hvb hbox c0 c1 z
    go_wp2
    refine bodyPost_ret (v := .tuple #[.agg #[.int .i64 g, .slice a2 n2 c2], .int .i64 cd]) (by simp [results, Tryz.results20, go_sem, e0, e1]) rfl ⟨?_, cd, g, l, _, HQ.out.1, ?_, fun j e => ?_, rfl⟩
    · exact (B2.out.setCell (p := ⟨w.heap.size, 0, none⟩) (Nat.le_refl _) _).setCell (p := ⟨w.heap.size, 1, none⟩) (Nat.le_refl _) _
    · have hf := HQ.out.2.2
      exact ownsRow_setCell_other (ownsRow_setCell_other HQ.out.2.1 (fun e => by have := hf _ e; simp at this; omega) _) (fun e => by have := hf _ e; simp at this; omega) _
    · have := HQ.out.2.2 j e; omega
  · go_wp2
    refine bodyPost_ret (v := .tuple #[.agg #[.int .i64 0, .slice none 0 0], .int .i64 cd]) (by simp [results, Tryz.results20, go_sem, c0, c1]) rfl ⟨?_, cd, 0, [], .slice none 0 0, ?_, World.ownsRow_nil _ _ _ _, (fun j e => by cases e), rfl⟩
    · exact (B1.out.setCell (p := ⟨w.heap.size, 0, none⟩) (Nat.le_refl _) _).setCell (p := ⟨w.heap.size, 1, none⟩) (Nat.le_refl _) _
    · rw [HCD.out]; exact HN.out (by rw [← HCD.out]; exact h0)

theorem load_seal (w : World) (p b : Nat) (st : DkSt) (h : IsDk w p b st) (g : Int) (l : Segs) (hr : dkRead st fileN = (Crc.seal_ (manBytes g l), 0)) (hm : mayB g l = true) :
    Calls Tryz.prog 20 #[.pointer (some ⟨p, 0, none⟩)] w (ManPost (fun g' l' cd => g' = g ∧ l' = l ∧ cd = 0) w) :=
  load_any w p b st h _ (fun _ s W hs => (read_seal W s g l (by rw [hs, hr]) hm).mono fun e w' ⟨hb, v, h1, h2, h3⟩ => ⟨hb, 0, g, l, v, ⟨rfl, rfl, rfl⟩, h1, h2, h3⟩) (fun h => absurd (by rw [hr]) h)

/-! ### What a swap and a crash leave -/
theorem load_cases (cp : Int) (l : Fs) : (∃ c, (c == 0) = false ∧ c ≠ 0 ∧ dkLoad cp l = (none, c)) ∨ (dkLoad cp l = (some ⟨l, cp, -1, false⟩, 0)) := by
  unfold dkLoad
  split
  · exact .inl ⟨1, by decide, by decide, rfl⟩
  · split
    · exact .inl ⟨4, by decide, by decide, rfl⟩
    · split
      · exact .inl ⟨44, by decide, by decide, rfl⟩
      · exact .inr rfl

/-- What a swap ended with leaves behind a crash: c: what it told; want: the new bytes. -/
structure WhEnd (l : Fs) (old : List UInt8 × Int) (want : List UInt8) (c : Int) (st2 st3 : DkSt) (now : List UInt8 × Int) : Prop where
  up : st2.dark = (c == 45)
  fresh : c = 0 → now.2 = 0 ∧ now.1 = want
  stale : c ≠ 0 → now = old
  rest : Pairs (oth st3.fs) (oth l)

theorem wh_end (st0 st1 : DkSt) (l : Fs) (hl : st0.fs = l) (h1 : st1.fs = l) (hd0 : st0.dark = false) (hd : st1.dark = false) (g : Int) (m : Segs) (ks : List Int) (hn : ∀ f, fsGet l fileN = some f → f.pend = []) :
    WhEnd l (dkRead st0 fileN) (wantL g m) (dkSwap st1 g m).2 (dkSwap st1 g m).1 (dkCrash (dkSwap st1 g m).1 ks) (dkRead (dkCrash (dkSwap st1 g m).1 ks) fileN) := by
  have hold : ∀ (st : DkSt), SwKeep st1 st → dkRead (dkCrash st ks) fileN = dkRead st0 fileN := by
    intro st hk
    have e1 : fsGet st.fs fileN = fsGet l fileN := by rw [hk.2, h1]
    unfold dkRead dkCrash
    rw [hd0, hl]
    cases hg : fsGet l fileN with
    | none => rw [hg] at e1; simp only [crash_get_none st.fs ks e1]
    | some f => rw [hg] at e1; simp only [crash_get_firm (hn f hg) st.fs ks e1]
  have hpairs : ∀ (st : DkSt), oth st.fs = oth st1.fs → Pairs (oth (dkCrash st ks).fs) (oth l) := by
    intro st hk
    have := crash_pairs st.fs ks
    rw [hk, h1] at this; exact this
  cases hm : mayB g m
  · rw [show dkSwap st1 g m = (st1, 4) from by unfold dkSwap; rw [hm]; rfl]
    exact ⟨hd, (fun h => by cases h), fun _ => hold st1 (SwKeep.refl _), hpairs st1 rfl⟩
  · have hw : wantL g m = Crc.seal_ (manBytes g m) := by unfold wantL; rw [hm]; rfl
    rw [hw]
    rcases swap_ends st1 hd g m hm with ⟨e1, e2, e3, e4, e5⟩ | ⟨e1, e2, e3⟩
    · refine ⟨by rw [e1, e2]; rfl, fun _ => ?_, fun h => absurd e1 h, hpairs _ e3⟩
      have : dkRead (dkCrash (dkSwap st1 g m).1 ks) fileN = (Crc.seal_ (manBytes g m), 0) := by
        unfold dkRead dkCrash
        simp only [crash_get_firm (f0 := ⟨fileN, Crc.seal_ (manBytes g m), []⟩) rfl _ ks e4, List.append_nil]
        rfl
      rw [this]; exact ⟨rfl, rfl⟩
    · refine ⟨?_, fun h => absurd h e1, fun _ => hold _ e2, hpairs _ e2.1⟩
      by_cases hc : (dkSwap st1 g m).2 = 45
      · rw [hc, e3.2 hc]; rfl
      · have : (dkSwap st1 g m).1.dark = false := by cases e : (dkSwap st1 g m).1.dark; rfl; exact absurd (e3.1 e) hc
        rw [this]; simpa using hc
/-- Without a cut: the new manifest is there, and no other. -/
theorem wh_now (st1 : DkSt) (hd : st1.dark = false) (g : Int) (m : Segs) (hc : (dkSwap st1 g m).2 = 0) : mayB g m = true ∧ dkRead (dkSwap st1 g m).1 fileN = (Crc.seal_ (manBytes g m), 0) ∧ dkRead (dkSwap st1 g m).1 freshN = ([], 5) := by
  cases hm : mayB g m
  · rw [show dkSwap st1 g m = (st1, 4) from by unfold dkSwap; rw [hm]; rfl] at hc; cases hc
  · rcases swap_ends st1 hd g m hm with ⟨e1, e2, e3, e4, e5⟩ | ⟨e1, e2, e3⟩
    · refine ⟨rfl, ?_, ?_⟩ <;> unfold dkRead <;> simp [e2, e4, e5]
    · exact absurd hc e1
end Go.Proofs.YtppghhophaobdaaGreatDoor
