/- The walks of Delete, Sync, Read, Cut, Up. -/
import Derived.Test.YtppghhophaobdaaGreatDoorDk3
namespace Go.Proofs.YtppghhophaobdaaGreatDoor
open Go.RowKit Go.Maps

set_option maxRecDepth 100000 in
set_option maxHeartbeats 1000000 in
theorem delete_act (w : World) (q r p b : Nat) (st : DkSt) (n : ByteArray) (hc : Capt w q r p n) (h : IsDk w p b st) (hn : n.size ≤ maxLen) :
    Calls Tryz.prog 110 #[.pointer (some ⟨q, 0, none⟩), .pointer (some ⟨r, 0, none⟩)] w fun e w' => ActPost p b { st with fs := fsDel st.fs n.data.toList } w e w' := by
  have H := Lib.hid h
  have hx1 := hc.cq
  have hx2 := hc.cr
  obtain ⟨c0, c1, c2, c3⟩ := h.cs
  have HK := Lib.hid (WideMaps.keyOf_string_mk Tryz.underlying9 hn)
  have HE := Lib.hid (show FsKeep (fsDel st.fs n.data.toList) ∧ (used (fsDel st.fs n.data.toList) : Int) ≤ st.cap from ⟨h.ok.fs.keep.del _, by have := h.ok.fits; have := used_del st.fs n.data.toList; omega⟩)
  clear hc h hn
  obtain ⟨w1, hrun, hown1, hturn1⟩ := H.out.drew.own.drop (t := 108) (e := 113) Tryz.strKey Tryz.underlying108 (key := .string n) HK.out 0
  have HO := Lib.hid (H.out.drew.turned (fs' := fsDel st.fs n.data.toList) (by rw [← del_fs]; exact hown1) hturn1 HE.out.1 HE.out.2)
  have HT := Lib.hid (turned_fr hturn1)
  clear hown1 hturn1
  go_enter Tryz.func110, Tryz.ntmps110
  go_region
  go_wp2
  go_end0
  exact ⟨rfl, HO.out, ((Fr.refl _ w).drew.trans HT.out).toD⟩

theorem find_dark {w w1 : World} {st : DkSt} {n : List UInt8} {e : Ending} (h : FindPost w st n e w1) (hd : st.dark = true) : Below w.heap.size w w1 ∧ e = .returned (.tuple #[.agg #[.string ⟨#[]⟩, .string ⟨#[]⟩], .int .i64 45]) := by
  obtain ⟨h1, a, b, h2⟩ := h
  rw [if_pos hd] at h2
  obtain ⟨ha, hb, rfl⟩ := h2
  have ea : a = ⟨#[]⟩ := by cases a with | mk d => simp at ha; rw [ha]
  have eb : b = ⟨#[]⟩ := by cases b with | mk d => simp at hb; rw [hb]
  rw [ea, eb]; exact ⟨h1, rfl⟩
theorem find_none {w w1 : World} {st : DkSt} {n : List UInt8} {e : Ending} (h : FindPost w st n e w1) (hd : st.dark = false) (hg : fsGet st.fs n = none) : Below w.heap.size w w1 ∧ e = .returned (.tuple #[.agg #[.string ⟨#[]⟩, .string ⟨#[]⟩], .int .i64 5]) := by
  obtain ⟨h1, a, b, h2⟩ := h
  rw [if_neg (by rw [hd]; simp), hg] at h2
  obtain ⟨ha, hb, rfl⟩ := h2
  have ea : a = ⟨#[]⟩ := by cases a with | mk d => simp at ha; rw [ha]
  have eb : b = ⟨#[]⟩ := by cases b with | mk d => simp at hb; rw [hb]
  rw [ea, eb]; exact ⟨h1, rfl⟩
theorem find_some {w w1 : World} {st : DkSt} {n : List UInt8} {e : Ending} (h : FindPost w st n e w1) (hd : st.dark = false) {f : FileS} (hg : fsGet st.fs n = some f) : Below w.heap.size w w1 ∧ ∃ a b : ByteArray, a.data.toList = f.firm ∧ b.data.toList = f.pend ∧ e = .returned (.tuple #[.agg #[.string a, .string b], .int .i64 0]) := by
  obtain ⟨h1, a, b, h2⟩ := h
  rw [if_neg (by rw [hd]; simp), hg] at h2
  exact ⟨h1, a, b, h2.1, h2.2.1, h2.2.2⟩

theorem box2_fr (w : World) (o1 o2 : Obj) {w1 : World} (h : Below (((w.alloc o1).alloc o2).heap.size) ((w.alloc o1).alloc o2) w1) : Below w.heap.size w w1 := (box2_below w o1 o2).trans (h.mono (by simp; omega))

set_option maxRecDepth 100000 in
set_option maxHeartbeats 1500000 in
theorem dk_delete (w : World) (p b : Nat) (st : DkSt) (h : IsDk w p b st) (n : ByteArray) (hn : n.size ≤ maxLen) :
    Calls Tryz.prog 46 #[.pointer (some ⟨p, 0, none⟩), .string n] w fun e w' => OpPost p b (dkDelete st n.data.toList) w e w' := by
  have hmf : ∀ (fn : Fn) (first cap : Array Value) (w : World), (Instr.makeFunc fn first cap).run Tryz.prog w = .ok (.func fn first cap) w := fun _ _ _ _ => rfl
  have hp := h.lt
  have hbl := h.own.lt
  have H := Lib.hid h
  have H1 := Lib.hid (h.pure (box2_below w (.cells #[.pointer (some ⟨p, 0, none⟩)] 29) (.cells #[.string n] 9)))
  clear h
  go_enter Tryz.func46, Tryz.ntmps46
  go_wp2_with fail
  refine (dk_find _ p b st H1.out n hn).mono ?_
  intro e w1 hf
  cases hd : st.dark
  · cases hg : fsGet st.fs n.data.toList with
    | none =>
      obtain ⟨hb1, rfl⟩ := find_none hf hd hg
      have HD := Lib.hid hd
      have HG := Lib.hid hg
      have hb6 := Lib.hid (((box2_fr w _ _ hb1).alloc (by have := hb1.size; simp at this; omega) (.cells #[.string ⟨#[]⟩, .string ⟨#[]⟩] 113)))
      clear hd hg hf hb1
      go_wp2
      go_ret
      have e1 : dkDelete st n.data.toList = (st, 5) := by unfold dkDelete; rw [HD.out, HG.out]; rfl
      rw [e1]
      exact ⟨rfl, H.out.pure hb6.out, Fr.pure hb6.out⟩
    | some f =>
      obtain ⟨hb1, f1, f2, hf1, hf2, rfl⟩ := find_some hf hd hg
      have HD := Lib.hid hd
      have HG := Lib.hid hg
      have hs1 := hb1.size
      simp at hs1
      have HB := Lib.hid (((box2_fr w _ _ hb1).alloc (by omega) (.cells #[.string f1, .string f2] 113)))
      have HC := Lib.hid (box2_capt (S := fun _ => False) (((Fr.refl _ _).andPure hb1).alloc (.cells #[.string f1, .string f2] 113)) (fun hf => hf) (fun hf => hf))
      clear hd hg hf hb1
      have hx1 := HC.out.cq
      have hx2 := HC.out.cr
      go_wp2_with fail
      refine (dk_do 110 _ _ p b st (H.out.pure HB.out) (enters_of Tryz.func110 (by kernel_rfl) rfl) (fun w2 => IsDk w2 p b { st with left := dec st.left, fs := fsDel st.fs n.data.toList } ∧ DFr p b (w1.alloc (.cells #[.string f1, .string f2] 113)) w2) (fun _ w3 hf1 hs1 hd1 => (delete_act w3 _ _ p b { st with left := dec st.left } n (HC.out.fr hf1 (by omega) (by omega)) hd1 hn).mono (fun e w2 h2 => ⟨h2.1, h2.2.1, hf1.toD1.trans h2.2.2⟩))).mono ?_
      rintro e w7 (⟨h0, rfl, hf7, hd7⟩ | ⟨h0, rfl, hd7, hf7⟩)
      · have H7 := Lib.hid hd7
        have F7 := Lib.hid hf7
        have H0 := Lib.hid h0
        clear hd7 hf7 h0
        go_wp2
        go_ret
        have e1 : dkDelete st n.data.toList = ({ st with dark := true }, 45) := by unfold dkDelete doing; rw [HD.out, HG.out, if_pos H0.out]; rfl
        rw [e1]
        exact ⟨rfl, H7.out, (Fr.pure HB.out).trans F7.out.toD1⟩
      · have H7 := Lib.hid hd7
        have F7 := Lib.hid hf7
        have H0 := Lib.hid h0
        clear hd7 hf7 h0
        go_wp2
        go_ret
        have e1 : dkDelete st n.data.toList = ({ st with left := dec st.left, fs := fsDel st.fs n.data.toList }, 0) := by unfold dkDelete doing; rw [HD.out, HG.out, if_neg H0.out]; rfl
        rw [e1]
        exact ⟨rfl, H7.out, (Fr.pure HB.out).trans F7.out⟩
  · obtain ⟨hb1, rfl⟩ := find_dark hf hd
    have HD := Lib.hid hd
    have hb6 := Lib.hid (((box2_fr w _ _ hb1).alloc (by have := hb1.size; simp at this; omega) (.cells #[.string ⟨#[]⟩, .string ⟨#[]⟩] 113)))
    clear hd hf hb1
    go_wp2
    go_ret
    have e1 : dkDelete st n.data.toList = (st, 45) := by unfold dkDelete; rw [HD.out]; rfl
    rw [e1]
    exact ⟨rfl, H.out.pure hb6.out, Fr.pure hb6.out⟩

def dkSync (st : DkSt) (n : List UInt8) : DkSt × Int :=
  if st.dark then (st, 45) else match fsGet st.fs n with | none => (st, 5) | some f => doing st (fsPut st.fs ⟨n, f.firm ++ f.pend, []⟩)

/-- A file's box. -/
structure BoxAt (w : World) (g : Nat) (f1 f2 : ByteArray) : Prop where
  c0 : w.cell? ⟨g, 0, none⟩ = some (.string f1)
  c1 : w.cell? ⟨g, 1, none⟩ = some (.string f2)
theorem BoxAt.fr {S : Nat → Prop} {w w' : World} {g : Nat} {f1 f2 : ByteArray} (h : BoxAt w g f1 f2) (hf : Fr S w w') (h1 : ¬ S g) : BoxAt w' g f1 f2 := ⟨hf.cellAt h.c0 h1, hf.cellAt h.c1 h1⟩
theorem box_at {w w' : World} {f1 f2 : ByteArray} {t : TypeId} (hf : Fr (fun _ => False) (w.alloc (.cells #[.string f1, .string f2] t)) w') : BoxAt w' w.heap.size f1 f2 :=
  ⟨hf.cellAt (by rw [World.cell?_alloc_at _ _ _ _ rfl]; rfl) (fun h => h), hf.cellAt (by rw [World.cell?_alloc_at _ _ _ _ rfl]; rfl) (fun h => h)⟩

set_option maxRecDepth 100000 in
set_option maxHeartbeats 1000000 in
theorem sync_act (w : World) (g q r p b : Nat) (st : DkSt) (n f1 f2 : ByteArray) (hc : Capt w q r p n) (hx : BoxAt w g f1 f2) (h : IsDk w p b st) (hn : n.size ≤ maxLen)
    (f : FileS) (hg : fsGet st.fs n.data.toList = some f) (hf1 : f1.data.toList = f.firm) (hf2 : f2.data.toList = f.pend) :
    Calls Tryz.prog 129 #[.pointer (some ⟨g, 0, none⟩), .pointer (some ⟨q, 0, none⟩), .pointer (some ⟨r, 0, none⟩)] w fun e w' => ActPost p b { st with fs := fsPut st.fs ⟨n.data.toList, f.firm ++ f.pend, []⟩ } w e w' := by
  have H := Lib.hid h
  have hx1 := hc.cq
  have hx2 := hc.cr
  have hx3 := hx.c0
  have hx4 := hx.c1
  obtain ⟨c0, c1, c2, c3⟩ := h.cs
  have hsm := h.ok.fs.small f (get_name hg).2
  have hsz : f1.size + f2.size ≤ 9223372036854775807 := by rw [size_of_list hf1, size_of_list hf2]; omega
  have HK := Lib.hid (WideMaps.keyOf_string_mk Tryz.underlying9 hn)
  have HF := Lib.hid h.fewer
  have hud := used_del_some (fs_apart h.ok.fs) hg
  have HE := Lib.hid (show FsKeep (fsPut st.fs ⟨n.data.toList, f.firm ++ f.pend, []⟩) ∧ (used (fsPut st.fs ⟨n.data.toList, f.firm ++ f.pend, []⟩) : Int) ≤ st.cap from
    ⟨h.ok.fs.keep.put (by show (fsDel st.fs n.data.toList).length < 64; have := h.ok.fs.few; omega) (by simp; omega) (by show n.data.toList.length ≤ 24; rw [← (get_name hg).1]; exact h.ok.fs.names f (get_name hg).2), by rw [used_put]; have := h.ok.fits; simp only [List.length_append, List.length_nil]; show (((f.firm.length + f.pend.length + 0) + used (fsDel st.fs n.data.toList) : Nat) : Int) ≤ st.cap; omega⟩)
  obtain ⟨w1, hrun, hown1, hturn1⟩ := H.out.drew.own.store (t := 108) (e := 113) Tryz.strKey Tryz.underlying108 HF.out (key := .string n) (val := .agg #[.string (f1 ++ f2), .string ⟨#[]⟩]) HK.out (fileElem_mk _ _)
  have HO := Lib.hid (H.out.drew.turned (fs' := fsPut st.fs ⟨n.data.toList, f.firm ++ f.pend, []⟩) (by rw [← put_fs]; show w1.ownsMap Tryz.prog 9 fileElem b _ ((fsD st.fs).put (.string n.data.toList) (.agg [.lit (.string (f.firm ++ f.pend)), .lit (.string [])])); rw [← hf1, ← hf2]; have := hown1; simpa using this) hturn1 HE.out.1 HE.out.2)
  have HT := Lib.hid (turned_fr hturn1)
  clear hown1 hturn1 hc h hn hud hsm hg hf1 hf2 hx
  go_enter Tryz.func129, Tryz.ntmps129
  go_region
  go_wp2
  go_end0
  exact ⟨rfl, HO.out, ((Fr.refl _ w).drew.trans HT.out).toD⟩

set_option maxRecDepth 100000 in
set_option maxHeartbeats 1500000 in
theorem dk_sync (w : World) (p b : Nat) (st : DkSt) (h : IsDk w p b st) (n : ByteArray) (hn : n.size ≤ maxLen) :
    Calls Tryz.prog 65 #[.pointer (some ⟨p, 0, none⟩), .string n] w fun e w' => OpPost p b (dkSync st n.data.toList) w e w' := by
  have hmf : ∀ (fn : Fn) (first cap : Array Value) (w : World), (Instr.makeFunc fn first cap).run Tryz.prog w = .ok (.func fn first cap) w := fun _ _ _ _ => rfl
  have hp := h.lt
  have hbl := h.own.lt
  have H := Lib.hid h
  have H1 := Lib.hid (h.pure (box2_below w (.cells #[.pointer (some ⟨p, 0, none⟩)] 29) (.cells #[.string n] 9)))
  clear h
  go_enter Tryz.func65, Tryz.ntmps65
  go_wp2_with fail
  refine (dk_find _ p b st H1.out n hn).mono ?_
  intro e w1 hf
  cases hd : st.dark
  · cases hg : fsGet st.fs n.data.toList with
    | none =>
      obtain ⟨hb1, rfl⟩ := find_none hf hd hg
      have HD := Lib.hid hd
      have HG := Lib.hid hg
      have hb6 := Lib.hid (((box2_fr w _ _ hb1).alloc (by have := hb1.size; simp at this; omega) (.cells #[.string ⟨#[]⟩, .string ⟨#[]⟩] 113)))
      clear hd hg hf hb1
      go_wp2
      go_ret
      have e1 : dkSync st n.data.toList = (st, 5) := by unfold dkSync; rw [HD.out, HG.out]; rfl
      rw [e1]
      exact ⟨rfl, H.out.pure hb6.out, Fr.pure hb6.out⟩
    | some f =>
      obtain ⟨hb1, f1, f2, hf1, hf2, rfl⟩ := find_some hf hd hg
      have HD := Lib.hid hd
      have HG := Lib.hid hg
      have hs1 := hb1.size
      simp at hs1
      have HB := Lib.hid (((box2_fr w _ _ hb1).alloc (by omega) (.cells #[.string f1, .string f2] 113)))
      have HC := Lib.hid (box2_capt (S := fun _ => False) (((Fr.refl _ _).andPure hb1).alloc (.cells #[.string f1, .string f2] 113)) (fun hf => hf) (fun hf => hf))
      have HF := Lib.hid (And.intro hf1 hf2)
      clear hd hg hf hb1 hf1 hf2
      have HX := Lib.hid (box_at (Fr.refl (fun _ => False) _) : BoxAt (w1.alloc (.cells #[.string f1, .string f2] 113)) w1.heap.size f1 f2)
      have hlt1 := H1.out.lt
      simp at hlt1
      have hx1 := HC.out.cq
      have hx2 := HC.out.cr
      go_wp2_with fail
      refine (dk_do 129 _ _ p b st (H.out.pure HB.out) (enters_of Tryz.func129 (by kernel_rfl) rfl) (fun w2 => IsDk w2 p b { st with left := dec st.left, fs := fsPut st.fs ⟨n.data.toList, f.firm ++ f.pend, []⟩ } ∧ DFr p b (w1.alloc (.cells #[.string f1, .string f2] 113)) w2) (fun _ w3 hf1 hs1 hd1 => (sync_act w3 _ _ _ p b { st with left := dec st.left } n f1 f2 (HC.out.fr hf1 (by omega) (by omega)) (HX.out.fr hf1 (by omega)) hd1 hn f HG.out HF.out.1 HF.out.2).mono (fun e w2 h2 => ⟨h2.1, h2.2.1, hf1.toD1.trans h2.2.2⟩))).mono ?_
      rintro e w7 (⟨h0, rfl, hf7, hd7⟩ | ⟨h0, rfl, hd7, hf7⟩)
      · have H7 := Lib.hid hd7
        have F7 := Lib.hid hf7
        have H0 := Lib.hid h0
        clear hd7 hf7 h0
        go_wp2
        go_ret
        have e1 : dkSync st n.data.toList = ({ st with dark := true }, 45) := by unfold dkSync; rw [if_neg (by rw [HD.out]; simp), HG.out]; exact if_pos H0.out
        rw [e1]
        exact ⟨rfl, H7.out, (Fr.pure HB.out).trans F7.out.toD1⟩
      · have H7 := Lib.hid hd7
        have F7 := Lib.hid hf7
        have H0 := Lib.hid h0
        clear hd7 hf7 h0
        go_wp2
        go_ret
        have e1 : dkSync st n.data.toList = ({ st with left := dec st.left, fs := fsPut st.fs ⟨n.data.toList, f.firm ++ f.pend, []⟩ }, 0) := by unfold dkSync; rw [if_neg (by rw [HD.out]; simp), HG.out]; exact if_neg H0.out
        rw [e1]
        exact ⟨rfl, H7.out, (Fr.pure HB.out).trans F7.out⟩
  · obtain ⟨hb1, rfl⟩ := find_dark hf hd
    have HD := Lib.hid hd
    have hb6 := Lib.hid (((box2_fr w _ _ hb1).alloc (by have := hb1.size; simp at this; omega) (.cells #[.string ⟨#[]⟩, .string ⟨#[]⟩] 113)))
    clear hd hf hb1
    go_wp2
    go_ret
    have e1 : dkSync st n.data.toList = (st, 45) := by unfold dkSync; rw [HD.out]; rfl
    rw [e1]
    exact ⟨rfl, H.out.pure hb6.out, Fr.pure hb6.out⟩

end Go.Proofs.YtppghhophaobdaaGreatDoor
