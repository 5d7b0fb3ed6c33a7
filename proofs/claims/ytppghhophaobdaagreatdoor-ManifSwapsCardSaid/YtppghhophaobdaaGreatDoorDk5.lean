/- The walks of Read, Cut, Up, Rename, Append. -/
import Derived.Test.YtppghhophaobdaaGreatDoorDk4
namespace Go.Proofs.YtppghhophaobdaaGreatDoor
open Go.RowKit Go.Maps

theorem bytes_append (a b : ByteArray) : (a ++ b).data.toList = a.data.toList ++ b.data.toList := by simp

def dkRead (st : DkSt) (n : List UInt8) : List UInt8 × Int :=
  if st.dark then ([], 45) else match fsGet st.fs n with | none => ([], 5) | some f => (f.firm ++ f.pend, 0)
def TextPost (r : List UInt8 × Int) (w : World) (e : Ending) (w' : World) : Prop := (∃ s : ByteArray, s.data.toList = r.1 ∧ e = .returned (.tuple #[.string s, .int .i64 r.2])) ∧ Below w.heap.size w w'

set_option maxRecDepth 100000 in
set_option maxHeartbeats 1500000 in
theorem dk_read (w : World) (p b : Nat) (st : DkSt) (h : IsDk w p b st) (n : ByteArray) (hn : n.size ≤ maxLen) :
    Calls Tryz.prog 56 #[.pointer (some ⟨p, 0, none⟩), .string n] w fun e w' => TextPost (dkRead st n.data.toList) w e w' := by
  have H := Lib.hid h
  clear h
  go_enter Tryz.func56, Tryz.ntmps56
  go_wp2_with fail
  refine (dk_find _ p b st H.out n hn).mono ?_
  intro e w1 hf
  cases hd : st.dark
  · cases hg : fsGet st.fs n.data.toList with
    | none =>
      obtain ⟨hb1, rfl⟩ := find_none hf hd hg
      have HD := Lib.hid hd
      have HG := Lib.hid hg
      have HB := Lib.hid (hb1.alloc hb1.size (.cells #[.string ⟨#[]⟩, .string ⟨#[]⟩] 113))
      clear hd hg hf hb1
      go_wp2
      refine bodyPost_ret (v := .tuple #[.string ⟨#[]⟩, .int .i64 5]) (by simp [results, Tryz.results56, go_sem]; rfl) rfl ⟨⟨⟨#[]⟩, ?_, ?_⟩, HB.out⟩
      · unfold dkRead; rw [if_neg (by rw [HD.out]; simp), HG.out]
      · unfold dkRead; rw [if_neg (by rw [HD.out]; simp), HG.out]
    | some f =>
      obtain ⟨hb1, f1, f2, hf1, hf2, rfl⟩ := find_some hf hd hg
      have HD := Lib.hid hd
      have HG := Lib.hid hg
      have HF := Lib.hid (And.intro hf1 hf2)
      have hsm := H.out.ok.fs.small f (get_name hg).2
      have hsz : f1.size + f2.size ≤ 9223372036854775807 := by rw [size_of_list hf1, size_of_list hf2]; omega
      have HB := Lib.hid (hb1.alloc hb1.size (.cells #[.string f1, .string f2] 113))
      clear hd hg hf hb1 hf1 hf2 hsm
      go_wp2
      refine bodyPost_ret (v := .tuple #[.string (f1 ++ f2), .int .i64 0]) (by simp [results, Tryz.results56, go_sem]) rfl ⟨⟨f1 ++ f2, ?_, ?_⟩, HB.out⟩
      · unfold dkRead; rw [if_neg (by rw [HD.out]; simp), HG.out]; show (f1 ++ f2).data.toList = f.firm ++ f.pend; rw [← HF.out.1, ← HF.out.2]; exact bytes_append f1 f2
      · unfold dkRead; rw [if_neg (by rw [HD.out]; simp), HG.out]
  · obtain ⟨hb1, rfl⟩ := find_dark hf hd
    have HD := Lib.hid hd
    have HB := Lib.hid (hb1.alloc hb1.size (.cells #[.string ⟨#[]⟩, .string ⟨#[]⟩] 113))
    clear hd hf hb1
    go_wp2
    refine bodyPost_ret (v := .tuple #[.string ⟨#[]⟩, .int .i64 45]) (by simp [results, Tryz.results56, go_sem]; rfl) rfl ⟨⟨⟨#[]⟩, ?_, ?_⟩, HB.out⟩
    · unfold dkRead; rw [if_pos HD.out]
    · unfold dkRead; rw [if_pos HD.out]

def dkCut (st : DkSt) (n : Int) : DkSt × Int := if st.dark then (st, 45) else if n < 0 then (st, 1) else ({ st with left := n }, 0)

set_option maxRecDepth 100000 in
set_option maxHeartbeats 1500000 in
theorem dk_cut (w : World) (p b : Nat) (st : DkSt) (h : IsDk w p b st) (n : Int) (hn : -9223372036854775808 ≤ n) (hn1 : n ≤ 9223372036854775807) :
    Calls Tryz.prog 12 #[.pointer (some ⟨p, 0, none⟩), .int .i64 n] w fun e w' => OpPost p b (dkCut st n) w e w' := by
  have H := Lib.hid h
  have hp := h.lt
  obtain ⟨c0, c1, c2, c3⟩ := h.cs
  have z2 := h.fz 2
  clear h
  cases hd : st.dark
  · have HD := Lib.hid hd
    clear hd
    by_cases h0 : n < 0
    · go_enter Tryz.func12, Tryz.ntmps12
      go_wp2_with fail
      refine (dk_down _ p b st H.out).mono ?_
      rintro e w1 ⟨rfl, rfl⟩
      rw [HD.out]
      go_wp2
      go_ret
      have e1 : dkCut st n = (st, 1) := by unfold dkCut; rw [if_neg (by rw [HD.out]; simp), if_pos h0]
      rw [e1]
      exact ⟨rfl, H.out, Fr.refl _ _⟩
    · have HL := Lib.hid (H.out.setLeft n (by omega) hn1)
      go_enter Tryz.func12, Tryz.ntmps12
      go_wp2_with fail
      refine (dk_down _ p b st H.out).mono ?_
      rintro e w1 ⟨rfl, rfl⟩
      rw [HD.out]
      go_wp2
      go_ret
      have e1 : dkCut st n = ({ st with left := n }, 0) := by unfold dkCut; rw [if_neg (by rw [HD.out]; simp), if_neg (by omega)]
      rw [e1]
      exact ⟨rfl, HL.out, (setCell_fr ⟨p, 2, none⟩ _).toD1⟩
  · have HD := Lib.hid hd
    clear hd
    go_enter Tryz.func12, Tryz.ntmps12
    go_wp2_with fail
    refine (dk_down _ p b st H.out).mono ?_
    rintro e w1 ⟨rfl, rfl⟩
    rw [HD.out]
    go_wp2
    go_ret
    have e1 : dkCut st n = (st, 45) := by unfold dkCut; rw [if_pos HD.out]
    rw [e1]
    exact ⟨rfl, H.out, Fr.refl _ _⟩

set_option maxRecDepth 100000 in
set_option maxHeartbeats 1000000 in
theorem dk_up (w : World) (p b : Nat) (st : DkSt) (h : IsDk w p b st) :
    Calls Tryz.prog 19 #[.pointer (some ⟨p, 0, none⟩)] w fun e w' => e = .returned (.bool (!st.dark)) ∧ w = w' := by
  obtain ⟨c0, c1, c2, c3⟩ := h.cs
  clear h
  go_enter Tryz.func19, Tryz.ntmps19
  go_wp2
  go_ret
  exact ⟨rfl, rfl⟩

/-! ### Rename -/
def dkRename (st : DkSt) (a c : List UInt8) : DkSt × Int :=
  if st.dark then (st, 45) else match fsGet st.fs a with
    | none => (st, 5)
    | some f => if !mayName c then (st, 4) else if a = c then (st, 1) else doing st (fsPut (fsDel st.fs a) ⟨c, f.firm, f.pend⟩)

theorem IsDk.off {w : World} {p b : Nat} {st : DkSt} (h : IsDk w p b st) {q o : Nat} {v : Value} (hc : w.cell? ⟨q, o, none⟩ = some v) : q ≠ b := by
  intro e
  obtain ⟨es, clock, hb, _⟩ := h.own
  subst e
  unfold World.cell? at hc
  rw [hb] at hc
  simp at hc

set_option maxRecDepth 100000 in
set_option maxHeartbeats 1000000 in
theorem rename_act (w : World) (q r g s p b : Nat) (st : DkSt) (n m f1 f2 : ByteArray) (hc : Capt w q r p n) (hm : w.cell? ⟨s, 0, none⟩ = some (.string m)) (hx : BoxAt w g f1 f2) (h : IsDk w p b st) (hn : n.size ≤ maxLen) (hml : m.size ≤ 24)
    (f : FileS) (hg : fsGet st.fs n.data.toList = some f) (hf1 : f1.data.toList = f.firm) (hf2 : f2.data.toList = f.pend) :
    Calls Tryz.prog 130 #[.pointer (some ⟨q, 0, none⟩), .pointer (some ⟨r, 0, none⟩), .pointer (some ⟨g, 0, none⟩), .pointer (some ⟨s, 0, none⟩)] w fun e w' => ActPost p b { st with fs := fsPut (fsDel st.fs n.data.toList) ⟨m.data.toList, f.firm, f.pend⟩ } w e w' := by
  have H := Lib.hid h
  have hx1 := hc.cq
  have hx2 := hc.cr
  obtain ⟨c0, c1, c2, c3⟩ := h.cs
  have hsm := h.ok.fs.small f (get_name hg).2
  have HK := Lib.hid (WideMaps.keyOf_string_mk Tryz.underlying9 hn)
  have HKm := Lib.hid (WideMaps.keyOf_string_mk Tryz.underlying9 (Nat.le_trans hml (by unfold maxLen; omega) : m.size ≤ maxLen))
  have hud := used_del_some (fs_apart h.ok.fs) hg
  have hfit := h.ok.fits
  have HE1 := Lib.hid (show FsKeep (fsDel st.fs n.data.toList) ∧ (used (fsDel st.fs n.data.toList) : Int) ≤ st.cap from ⟨h.ok.fs.keep.del _, by omega⟩)
  have HE := Lib.hid (show FsKeep (fsPut (fsDel st.fs n.data.toList) ⟨m.data.toList, f.firm, f.pend⟩) ∧ (used (fsPut (fsDel st.fs n.data.toList) ⟨m.data.toList, f.firm, f.pend⟩) : Int) ≤ st.cap from
    ⟨HE1.out.1.put (by show (fsDel (fsDel st.fs n.data.toList) m.data.toList).length < 64; have := h.ok.fs.few; have := length_del (fsDel st.fs n.data.toList) m.data.toList; omega) hsm (by rw [size_toList]; exact hml), by rw [used_put]; show (((f.firm.length + f.pend.length) + used (fsDel (fsDel st.fs n.data.toList) m.data.toList) : Nat) : Int) ≤ st.cap; have := used_del (fsDel st.fs n.data.toList) m.data.toList; omega⟩)
  have hqb := h.off hc.cq
  have hrb := h.off hc.cr
  have hgb := h.off hx.c0
  have hsb := h.off hm
  obtain ⟨w1, hrun, hown1, hturn1⟩ := H.out.drew.own.drop (t := 108) (e := 113) Tryz.strKey Tryz.underlying108 (key := .string n) HK.out 0
  have HO := Lib.hid (H.out.drew.turned (fs' := fsDel st.fs n.data.toList) (by rw [← del_fs]; exact hown1) hturn1 HE1.out.1 HE1.out.2)
  have HT := Lib.hid (turned_fr hturn1)
  have hy1 := HT.out.cellAt (show w.drew.cell? _ = _ from hc.cq) hqb
  have hy3 := HT.out.cellAt (show w.drew.cell? _ = _ from hm) hsb
  have hy4 := HT.out.cellAt (show w.drew.cell? _ = _ from hx.c0) hgb
  have hy5 := HT.out.cellAt (show w.drew.cell? _ = _ from hx.c1) hgb
  obtain ⟨e0, e1, e2, e3⟩ := HO.out.cs
  clear hown1 hturn1
  obtain ⟨w2, hrun2, hown2, hturn2⟩ := HO.out.drew.own.store (t := 108) (e := 113) Tryz.strKey Tryz.underlying108 HO.out.fewer (key := .string m) (val := .agg #[.string f1, .string f2]) HKm.out (fileElem_mk _ _)
  have HO2 := Lib.hid (HO.out.drew.turned (fs' := fsPut (fsDel st.fs n.data.toList) ⟨m.data.toList, f.firm, f.pend⟩) (by rw [← put_fs]; show w2.ownsMap Tryz.prog 9 fileElem b _ ((fsD (fsDel st.fs n.data.toList)).put (.string m.data.toList) (.agg [.lit (.string f.firm), .lit (.string f.pend)])); rw [← hf1, ← hf2]; exact hown2) hturn2 HE.out.1 HE.out.2)
  have HT2 := Lib.hid (turned_fr hturn2)
  clear hown2 hturn2 hc h hn hud hsm hg hf1 hf2 hx hm hml hqb hrb hgb hsb hfit
  go_enter Tryz.func130, Tryz.ntmps130
  go_wp2
  go_region
  go_wp2
  go_region
  go_wp2
  go_end0
  exact ⟨rfl, HO2.out, ((((Fr.refl _ w).drew.trans HT.out).drew).trans HT2.out).toD⟩

end Go.Proofs.YtppghhophaobdaaGreatDoor
