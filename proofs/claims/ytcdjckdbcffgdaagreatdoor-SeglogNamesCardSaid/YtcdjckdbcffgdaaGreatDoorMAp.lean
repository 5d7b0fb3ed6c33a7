/- The walks of Trim and List. -/
import Derived.Test.YtcdjckdbcffgdaaGreatDoorMAm
import Derived.Test.YtcdjckdbcffgdaaGreatDoorMAd
import Derived.Test.YtcdjckdbcffgdaaGreatDoorMAe
namespace Go.Proofs.YtcdjckdbcffgdaaGreatDoor
open Go.RowKit Go.Maps Go.Sort

set_option maxRecDepth 100000 in
set_option maxHeartbeats 1000000 in
theorem trim_act (w : World) (g s q r p b k : Nat) (st : DkSt) (n f1 f2 : ByteArray) (hc : Capt w q r p n) (hk : w.cell? ⟨s, 0, none⟩ = some (.int .i64 (k : Int))) (hx : BoxAt w g f1 f2) (h : IsDk w p b st) (hn : n.size ≤ maxLen)
    (f : FileS) (hg : fsGet st.fs n.data.toList = some f) (hf1 : f1.data.toList = f.firm) (hf2 : f2.data.toList = f.pend) (hkl : k ≤ f.firm.length + f.pend.length) :
    Calls Tryz.prog 76 #[.pointer (some ⟨g, 0, none⟩), .pointer (some ⟨s, 0, none⟩), .pointer (some ⟨q, 0, none⟩), .pointer (some ⟨r, 0, none⟩)] w fun e w' => ActPost p b { st with fs := fsPut st.fs ⟨n.data.toList, (f.firm ++ f.pend).take k, []⟩ } w e w' := by
  have H := Lib.hid h
  have hx1 := hc.cq
  have hx2 := hc.cr
  have hx3 := hx.c0
  have hx4 := hx.c1
  obtain ⟨c0, c1, c2, c3⟩ := h.cs
  have hsm := h.ok.fs.small f (get_name hg).2
  have hsz : f1.size + f2.size ≤ 9223372036854775807 := by rw [size_of_list hf1, size_of_list hf2]; omega
  have hk1 : k ≤ f1.size + f2.size := by rw [size_of_list hf1, size_of_list hf2]; exact hkl
  have HK := Lib.hid (WideMaps.keyOf_string_mk Tryz.underlying9 hn)
  have HF := Lib.hid h.fewer
  have hud := used_del_some (fs_apart h.ok.fs) hg
  have hlen : ((f.firm ++ f.pend).take k).length ≤ f.firm.length + f.pend.length := by rw [List.length_take, List.length_append]; omega
  have HE := Lib.hid (show FsKeep (fsPut st.fs ⟨n.data.toList, (f.firm ++ f.pend).take k, []⟩) ∧ (used (fsPut st.fs ⟨n.data.toList, (f.firm ++ f.pend).take k, []⟩) : Int) ≤ st.cap from
    ⟨h.ok.fs.keep.put (by show (fsDel st.fs n.data.toList).length < 64; have := h.ok.fs.few; omega) (by show ((f.firm ++ f.pend).take k).length + 0 ≤ _; omega) (by show n.data.toList.length ≤ 24; rw [← (get_name hg).1]; exact h.ok.fs.names f (get_name hg).2), by rw [used_put]; have := h.ok.fits; show (((((f.firm ++ f.pend).take k).length + 0) + used (fsDel st.fs n.data.toList) : Nat) : Int) ≤ st.cap; omega⟩)
  obtain ⟨w1, hrun, hown1, hturn1⟩ := H.out.drew.own.store (t := 104) (e := 103) Tryz.strKey Tryz.underlying104 HF.out (key := .string n) (val := .agg #[.string ((f1 ++ f2).extract 0 k), .string ⟨#[]⟩]) HK.out (fileElem_mk _ _)
  have hcut : ((f1 ++ f2).extract 0 k).data.toList = (f.firm ++ f.pend).take k := by rw [cut_list, bytes_append, hf1, hf2, List.drop_zero, Nat.sub_zero]
  have HO := Lib.hid (H.out.drew.turned (fs' := fsPut st.fs ⟨n.data.toList, (f.firm ++ f.pend).take k, []⟩) (by rw [← put_fs]; show w1.ownsMap Tryz.prog 9 fileElem b _ ((fsD st.fs).put (.string n.data.toList) (.agg [.lit (.string ((f.firm ++ f.pend).take k)), .lit (.string [])])); rw [← hcut]; exact hown1) hturn1 HE.out.1 HE.out.2)
  have HT := Lib.hid (turned_fr hturn1)
  clear hown1 hturn1 hc h hn hud hsm hg hf1 hf2 hx hlen hcut hkl
  go_enter Tryz.func76, Tryz.ntmps76
  go_region
  go_wp2
  go_end0
  exact ⟨rfl, HO.out, ((Fr.refl _ w).drew.trans HT.out).toD⟩

theorem box3_captN {w w' : World} {p : Nat} {n : ByteArray} {v : Value} {t1 t2 t3 : TypeId} (h : Fr (fun _ => False) (((w.alloc (.cells #[.pointer (some ⟨p, 0, none⟩)] t1)).alloc (.cells #[.string n] t2)).alloc (.cells #[v] t3)) w') : Capt w' w.heap.size (w.heap.size + 1) p n ∧ w'.cell? ⟨w.heap.size + 2, 0, none⟩ = some v :=
  ⟨⟨h.cellAt (by rw [World.cell?_alloc_past _ _ _ (by simp; omega), World.cell?_alloc_past _ _ _ (by simp), World.cell?_alloc_at _ _ _ _ rfl]; rfl) (fun h => h), h.cellAt (by rw [World.cell?_alloc_past _ _ _ (by simp), World.cell?_alloc_at _ _ _ _ (by simp)]; rfl) (fun h => h)⟩, h.cellAt (by rw [World.cell?_alloc_at _ _ _ _ (by simp)]; rfl) (fun h => h)⟩

set_option maxRecDepth 100000 in
set_option maxHeartbeats 2500000 in
theorem dk_trim (w : World) (p b : Nat) (st : DkSt) (h : IsDk w p b st) (n : ByteArray) (k : Nat) (hn : n.size ≤ maxLen) :
    Calls Tryz.prog 29 #[.pointer (some ⟨p, 0, none⟩), .string n, .int .i64 (k : Int)] w fun e w' => OpPost p b (dkTrim st n.data.toList k) w e w' := by
  have hmf : ∀ (fn : Fn) (first cap : Array Value) (w : World), (Instr.makeFunc fn first cap).run Tryz.prog w = .ok (.func fn first cap) w := fun _ _ _ _ => rfl
  have hp := h.lt
  have hbl := h.own.lt
  have H := Lib.hid h
  have H1 := Lib.hid (h.pure (box3_below w (.cells #[.pointer (some ⟨p, 0, none⟩)] 26) (.cells #[.string n] 9) (.cells #[.int .i64 (k : Int)] 3)))
  clear h
  go_enter Tryz.func29, Tryz.ntmps29
  go_wp2_with fail
  refine (dk_find _ p b st H1.out n hn).mono ?_
  intro e w1 hf
  cases hd : st.dark
  · cases hg : fsGet st.fs n.data.toList with
    | none =>
      obtain ⟨hb1, rfl⟩ := find_none hf hd hg
      have HD := Lib.hid hd
      have HG := Lib.hid hg
      have hb6 := Lib.hid (((box3_fr w _ _ _ hb1).alloc (by have := hb1.size; simp at this; omega) (.cells #[.string ⟨#[]⟩, .string ⟨#[]⟩] 103)))
      clear hd hg hf hb1
      go_wp2
      go_ret
      have e1 : dkTrim st n.data.toList k = (st, 5) := by unfold dkTrim; rw [if_neg (by rw [HD.out]; simp), HG.out]
      rw [e1]
      exact ⟨rfl, H.out.pure hb6.out, Fr.pure hb6.out⟩
    | some f =>
      obtain ⟨hb1, f1, f2, hf1, hf2, rfl⟩ := find_some hf hd hg
      have HD := Lib.hid hd
      have HG := Lib.hid hg
      have HF := Lib.hid (And.intro hf1 hf2)
      have hs1 := hb1.size
      simp at hs1
      have HB := Lib.hid (((box3_fr w _ _ _ hb1).alloc (by omega) (.cells #[.string f1, .string f2] 103)))
      have HC := Lib.hid (box3_captN (((Fr.refl _ _).andPure hb1).alloc (.cells #[.string f1, .string f2] 103)))
      have HX := Lib.hid (box_at (Fr.refl (fun _ => False) _) : BoxAt (w1.alloc (.cells #[.string f1, .string f2] 103)) w1.heap.size f1 f2)
      have hsm := H.out.ok.fs.small f (get_name hg).2
      have hsz : f1.size + f2.size ≤ 1048576 := by rw [size_of_list hf1, size_of_list hf2]; omega
      have hss : f1.size + f2.size = f.firm.length + f.pend.length := by rw [size_of_list hf1, size_of_list hf2]
      have HSS := Lib.hid hss
      have hs2 : w1.heap.size < (w1.alloc (.cells #[.string f1, .string f2] 103)).heap.size := by simp
      clear hd hg hf hb1 hf1 hf2 hsm hss
      go_wp2_with fail
      generalize w1.alloc (.cells #[.string f1, .string f2] 103) = w2 at *
      generalize w1.heap.size = g at *
      have k1 := cell_regrown HC.out.2
      have k2 := cell_regrown HX.out.c0
      have k3 := cell_regrown HX.out.c1
      have hk0 : decide ((k : Int) < 0) = false := by simp
      have q1 : ∀ d os, Calls Tryz.prog 61 #[.agg #[.string f1, .string f2]] (grow (redrawn w2 d) os) fun e w'' => e = .returned (.int .i64 ((f1.size + f2.size : Nat) : Int)) ∧ ∃ p : Regrown, w'' = grow (redrawn w2 p.d) p.os := fun d os => Calls.regrown_of (file_size _ f1 f2 (by omega))
      by_cases hb1 : f1.size + f2.size < k
      · have hd1 : decide ((f1.size : Int) + (f2.size : Int) < (k : Int)) = true := decide_eq_true (by omega)
        refine wp_region_quiet_below (by kernel_rfl) (by kernel_rfl) ?_
        repeat (go_big_quiet_step (exact q1 _ _))
        refine wpQuiet_nil ?_
        intro _ hw'
        obtain ⟨⟨dq, osq⟩, hw''⟩ := hw'
        subst hw''
        have HB3 := Lib.hid (HB.out.trans ((below_regrown w2 dq osq).mono (by omega)))
        generalize grow (redrawn w2 dq) osq = w3 at *
        have HB1 := Lib.hid hb1
        clear hb1
        go_wp2
        go_ret
        have e1 : dkTrim st n.data.toList k = (st, 1) := by unfold dkTrim; rw [if_neg (by rw [HD.out]; simp), HG.out]; exact if_pos (by have := HB1.out; have := HSS.out; omega)
        rw [e1]
        exact ⟨rfl, H.out.pure HB3.out, Fr.pure HB3.out⟩
      · have hd1 : decide ((f1.size : Int) + (f2.size : Int) < (k : Int)) = false := decide_eq_false (by omega)
        have HB1 := Lib.hid hb1
        clear hb1
        refine wp_region_quiet_below (by kernel_rfl) (by kernel_rfl) ?_
        repeat (go_big_quiet_step (exact q1 _ _))
        refine wpQuiet_nil ?_
        intro _ hw'
        obtain ⟨⟨dq, osq⟩, hw''⟩ := hw'
        subst hw''
        have HB2 := Lib.hid (below_regrown w2 dq osq)
        have HB3 := Lib.hid (HB.out.trans ((below_regrown w2 dq osq).mono (by omega)))
        have HC3 := Lib.hid (And.intro (HC.out.1.fr (Fr.pure (S := fun _ => False) HB2.out) (fun h => h) (fun h => h)) ((Fr.pure (S := fun _ => False) HB2.out).cellAt HC.out.2 (fun h => h)))
        have HX3 := Lib.hid (HX.out.fr (Fr.pure (S := fun _ => False) HB2.out) (fun h => h))
        have hs3 := HB2.out.size
        generalize grow (redrawn w2 dq) osq = w3 at *
        have hx1 := HC3.out.1.cq
        have hx2 := HC3.out.1.cr
        have hx3 := HC3.out.2
        go_wp2_with fail
        refine (dk_do 76 _ _ p b st (H.out.pure HB3.out) (enters_of Tryz.func76 (by kernel_rfl) rfl) (fun w5 => IsDk w5 p b { st with left := dec st.left, fs := fsPut st.fs ⟨n.data.toList, (f.firm ++ f.pend).take k, []⟩ } ∧ DFr p b w3 w5)
            (fun _ w4 hf1 hs1 hd1 => (trim_act w4 _ _ _ _ p b k { st with left := dec st.left } n f1 f2 (HC3.out.1.fr hf1 (by omega) (by omega)) (hf1.cellAt HC3.out.2 (by omega)) (HX3.out.fr hf1 (by omega)) hd1 hn f HG.out HF.out.1 HF.out.2 (by have := HB1.out; have := HSS.out; omega)).mono (fun e w5 h2 => ⟨h2.1, h2.2.1, hf1.toD1.trans h2.2.2⟩))).mono ?_
        rintro e w7 (⟨h0, rfl, hf7, hd7⟩ | ⟨h0, rfl, hd7, hf7⟩)
        · have H7 := Lib.hid hd7
          have F7 := Lib.hid hf7
          have H0 := Lib.hid h0
          clear hd7 hf7 h0
          go_wp2
          go_ret
          have e1 : dkTrim st n.data.toList k = ({ st with dark := true }, 45) := by unfold dkTrim; rw [if_neg (by rw [HD.out]; simp), HG.out]; show (if _ then _ else _) = _; rw [if_neg (by have := HB1.out; have := HSS.out; omega)]; exact if_pos H0.out
          rw [e1]
          exact ⟨rfl, H7.out, (Fr.pure HB3.out).trans F7.out.toD1⟩
        · have H7 := Lib.hid hd7
          have F7 := Lib.hid hf7
          have H0 := Lib.hid h0
          clear hd7 hf7 h0
          go_wp2
          go_ret
          have e1 : dkTrim st n.data.toList k = ({ st with left := dec st.left, fs := fsPut st.fs ⟨n.data.toList, (f.firm ++ f.pend).take k, []⟩ }, 0) := by unfold dkTrim; rw [if_neg (by rw [HD.out]; simp), HG.out]; show (if _ then _ else _) = _; rw [if_neg (by have := HB1.out; have := HSS.out; omega)]; exact if_neg H0.out
          rw [e1]
          exact ⟨rfl, H7.out, (Fr.pure HB3.out).trans F7.out⟩
  · obtain ⟨hb1, rfl⟩ := find_dark hf hd
    have HD := Lib.hid hd
    have hb6 := Lib.hid (((box3_fr w _ _ _ hb1).alloc (by have := hb1.size; simp at this; omega) (.cells #[.string ⟨#[]⟩, .string ⟨#[]⟩] 103)))
    clear hd hf hb1
    go_wp2
    go_ret
    have e1 : dkTrim st n.data.toList k = (st, 45) := by unfold dkTrim; rw [HD.out]; rfl
    rw [e1]
    exact ⟨rfl, H.out.pure hb6.out, Fr.pure hb6.out⟩
end Go.Proofs.YtcdjckdbcffgdaaGreatDoor

/- The walk of List; texts in memory. -/
namespace Go.Proofs.YtcdjckdbcffgdaaGreatDoor
open Go.RowKit Go.Maps Go.Sort

/-- A slice of own texts. -/
def OwnTexts (w : World) (base : Nat) (v : Value) (l : List (List UInt8)) : Prop := w.ownsRow base 9 1 v l.length (l.map encStr)

set_option maxHeartbeats 400000 in
theorem dk_list (w : World) (p b : Nat) (st : DkSt) (h : IsDk w p b st) :
    Calls Tryz.prog 39 #[.pointer (some ⟨p, 0, none⟩)] w fun e w' => Below w.heap.size w w' ∧
      (if st.dark then e = .returned (.tuple #[.slice none 0 0, .int .i64 45]) else ∃ v, e = .returned (.tuple #[v, .int .i64 0]) ∧ OwnTexts w' w.heap.size v (st.fs.map (·.name))) := by
  have H := Lib.hid h
  clear h
  cases hd : st.dark
  · have HD := Lib.hid hd
    clear hd
    go_enter Tryz.func39, Tryz.ntmps39
    go_wp2_with fail
    refine (dk_down _ p b st H.out).mono ?_
    rintro e w1 ⟨rfl, rfl⟩
    rw [HD.out]
    go_wp2_with fail
    refine (dk_names _ p b st H.out).mono ?_
    rintro e w1 ⟨v, rfl, ho, hb⟩
    have HO := Lib.hid ho
    have HB := Lib.hid hb
    clear ho hb
    go_wp2
    refine bodyPost_ret (v := .tuple #[v, .int .i64 0]) (by simp [results, Tryz.results39, go_sem]) rfl ?_
    exact ⟨HB.out, v, rfl, by have := HO.out; unfold OwnTexts; rw [List.length_map]; exact this⟩
  · have HD := Lib.hid hd
    clear hd
    go_enter Tryz.func39, Tryz.ntmps39
    go_wp2_with fail
    refine (dk_down _ p b st H.out).mono ?_
    rintro e w1 ⟨rfl, rfl⟩
    rw [HD.out]
    go_wp2
    refine bodyPost_ret (v := .tuple #[.slice none 0 0, .int .i64 45]) (by simp [results, Tryz.results39, go_sem]) rfl ?_
    exact ⟨Below.refl _ _, rfl⟩
end Go.Proofs.YtcdjckdbcffgdaaGreatDoor

/- The walk of seglog.all: steps, up to the first one that fails. -/
namespace Go.Proofs.YtcdjckdbcffgdaaGreatDoor
open Go.RowKit

/-- A function value: the function, what it is bound to, what it has captured. -/
abbrev FnV := FuncId × Array Value × Array Value
theorem cap_call {P : Program} {f : FuncId} {a : Array Value} {w : World} {Q : Ending → World → Prop} (h : Calls P f a w Q) : Calls P f (#[] ++ a) w Q := by rw [Array.empty_append]; exact h

theorem runL_step {σ : Type} (gs : List (σ → σ × Int)) (k : Nat) (h : k < gs.length) (s : σ) : runL (gs.drop k) s = if (gs[k] s).2 ≠ 0 then gs[k] s else runL (gs.drop (k + 1)) (gs[k] s).1 := by
  rw [List.drop_eq_getElem_cons h]; rfl

set_option maxRecDepth 100000 in
set_option maxHeartbeats 2000000 in
theorem all_any {σ : Type} (R : Nat → σ → World → Prop) (F : σ → World → Prop) (fs : List FnV) (gs : List (σ → σ × Int)) (b o c : Nat)
    (hl : gs.length = fs.length) (hbig : fs.length ≤ 1000000)
    (hent : ∀ i (h : i < fs.length), Enters Tryz.prog fs[i].1)
    (hrow : ∀ i (h : i < fs.length) s W, R i s W → W.cell? ⟨b, o + i, none⟩ = some (.func (.func fs[i].1) fs[i].2.1 fs[i].2.2))
    (hpure : ∀ i s W W', R i s W → Below W.heap.size W W' → R i s W')
    (hstep : ∀ i (h : i < fs.length) (h' : i < gs.length) s W, R i s W → Calls Tryz.prog fs[i].1 (fs[i].2.1 ++ fs[i].2.2) W fun e w' => e = .returned (.int .i64 (gs[i] s).2) ∧ ((gs[i] s).2 = 0 → R (i + 1) (gs[i] s).1 w') ∧ ((gs[i] s).2 ≠ 0 → F (gs[i] s).1 w'))
    (w : World) (s : σ) (hR : R 0 s w) :
    Calls Tryz.prog 47 #[.slice (some ⟨b, o, none⟩) fs.length c] w fun e w' => e = .returned (.int .i64 (runL gs s).2) ∧ ((runL gs s).2 = 0 → R fs.length (runL gs s).1 w') ∧ ((runL gs s).2 ≠ 0 → F (runL gs s).1 w') := by
  have HR := Lib.hid hR
  clear hR
  go_enter Tryz.func47, Tryz.ntmps47
  go_wp2
  go_loopw [8] (fun i wr => ∃ (k : Nat) (t : σ), i = .int .i64 (k : Int) ∧ k ≤ fs.length ∧ runL gs s = runL (gs.drop k) t ∧ R k t wr) (fun i _ => fs.length - (intOf i).toNat)
  case atStart => exact ⟨0, s, rfl, by omega, rfl, HR.out⟩
  case round =>
    obtain ⟨k, t, rfl, hk, hrun, hR⟩ := hrel
    have HRUN := Lib.hid hrun
    clear hrun
    by_cases hlt : k < fs.length
    · have hc1 := hrow k hlt t _ hR
      have HST := Lib.hid (runL_step gs k (by omega) t)
      have he : ∀ (args : Array Value) (w : World), (callFunc fs[k].1 args).run Tryz.prog w = .ok (.enter fs[k].1 args) w := hent k hlt
      have HS := Lib.hid (fun W' (hb : Below wr.heap.size wr W') => hstep k hlt (by omega) t W' (hpure k t wr W' hR hb))
      have HP := Lib.hid hR
      clear hR
      generalize fs[k].1 = fk at *
      generalize fs[k].2.1 = firsts at *
      generalize fs[k].2.2 = caps at *
      generalize gs[k] = g at *
      go_wp2_with fail
      refine (HS.out _ ((Below.refl _ _).alloc (Nat.le_refl _) _)).mono ?_
      rintro e w2 ⟨rfl, h1, h2⟩
      by_cases h0 : (g t).2 = 0
      · have HR := Lib.hid (h1 h0)
        have HST2 := Lib.hid (HST.out.trans (if_neg (by simp [h0])))
        rw [h0]
        clear h1 h2 h0
        go_wp2
        go_roundw
        case rel => exact ⟨k + 1, (g t).1, by go_num, by omega, HRUN.out.trans HST2.out, HR.out⟩
        case measure => simp [intOf]; omega
      · have HF := Lib.hid (h2 h0)
        have H0 := Lib.hid h0
        have HST2 := Lib.hid (HST.out.trans (if_pos (by simpa using h0)))
        have hne : ((g t).2 == 0) = false := by simpa using h0
        have hnn : ((g t).2 != 0) = true := by simpa using h0
        clear h1 h2 h0
        go_wp2
        go_ret
        rw [HRUN.out, HST2.out]
        exact ⟨rfl, fun h => absurd h H0.out, fun _ => HF.out⟩
    · have : k = fs.length := by omega
      subst this
      have HP := Lib.hid hR
      clear hR
      go_wp2
      go_ret
      have e : runL gs s = (t, 0) := by rw [HRUN.out, List.drop_eq_nil_of_le (by omega)]; rfl
      rw [e]
      exact ⟨rfl, fun _ => HP.out, fun h => absurd rfl h⟩
end Go.Proofs.YtcdjckdbcffgdaaGreatDoor
