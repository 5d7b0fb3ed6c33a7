/- The walk of seglog.Append. -/
import Derived.Test.YtcdjckdbcffgdaaGreatDoorMBb
import Derived.Test.YtcdjckdbcffgdaaGreatDoorMAy
namespace Go.Proofs.YtcdjckdbcffgdaaGreatDoor
open Go.RowKit

set_option maxRecDepth 100000 in
set_option maxHeartbeats 4000000 in
theorem append_bad (w : World) (F : Nat → Prop) (g p b : Nat) (st : DkSt) (l : LgSt) (h0 : LgEnv w F g p b st l) (x : ByteArray) (hx : x.size ≤ 140737488355328) (hbad : x.size = 0 ∨ 4096 < x.size ∨ 1048576 ≤ l.next) :
    Calls Tryz.prog 14 #[.pointer (some ⟨g, 0, none⟩), .string x] w fun e w' => AppPost w F g p b l.next (lgAppend st l x.data.toList) e w' := by
  have H0 := Lib.hid h0
  have hfew := h0.ok.few
  have hpos := h0.ok.pos
  have hlen := h0.ok.len
  have HN := Lib.hid (lg_next w F g p l h0.lg (by omega) (by omega))
  clear h0
  by_cases hz : x.size = 0
  · have hl : x.data.toList = [] := List.eq_nil_of_length_eq_zero (by rw [size_toList]; exact hz)
    have he : x.toList.isEmpty = true := by rw [ByteArray.toList_eq, hl]; rfl
    have he2 : x.toList = [] := by rw [ByteArray.toList_eq, hl]
    have HR := Lib.hid (show lgAppend st l x.data.toList = ((st, l), 4) from by unfold lgAppend; rw [if_pos hl])
    clear hz hbad hl
    go_enter Tryz.func14, Tryz.ntmps14
    go_wp2
    refine bodyPost_ret (v := .tuple #[.int .i64 0, .int .i64 4]) (by simp [results, Tryz.results14, go_sem]) rfl ?_
    exact app_no HR.out (by decide) (H0.out.stay (Below.refl _ _))
  · have hne : x.data.toList ≠ [] := fun e => hz (by have := size_toList x; rw [e] at this; exact this.symm)
    have HR := Lib.hid (show lgAppend st l x.data.toList = ((st, l), 40) from by unfold lgAppend; rw [if_neg hne, if_pos (by rw [size_toList]; omega)])
    have he1 : x.toList.isEmpty = false := by rw [ByteArray.toList_eq, List.isEmpty_eq_false_iff]; exact hne
    have he2 : ¬ x.toList = [] := by rw [ByteArray.toList_eq]; exact hne
    clear hne
    by_cases hb : 4096 < x.size
    · have hd : decide (((x.size : Nat) : Int) > 4096) = true := by simp; omega
      go_enter Tryz.func14, Tryz.ntmps14
      go_wp2
      refine bodyPost_ret (v := .tuple #[.int .i64 0, .int .i64 40]) (by simp [results, Tryz.results14, go_sem]) rfl ?_
      exact app_no HR.out (by decide) (H0.out.stay (Below.refl _ _))
    · have hd : decide ((4096 : Int) < ((x.size : Nat) : Int)) = false := by simp; omega
      have hd2 : decide ((1048576 : Int) ≤ ((l.next : Nat) : Int)) = true := by simp; omega
      have hd3 : ¬ (4096 : Int) < ((x.size : Nat) : Int) := by omega
      have hd4 : (1048576 : Int) ≤ ((l.next : Nat) : Int) := by omega
      clear hbad
      go_enter Tryz.func14, Tryz.ntmps14
      go_wp2_with (go_at_call 12; refine HN.out.mono ?_; rintro e w2 ⟨rfl, hb2⟩; have HB2 := Lib.hid hb2; clear hb2)
      refine bodyPost_ret (v := .tuple #[.int .i64 0, .int .i64 40]) (by simp [results, Tryz.results14, go_sem]) rfl ?_
      exact app_no HR.out (by decide) (H0.out.stay HB2.out)
end Go.Proofs.YtcdjckdbcffgdaaGreatDoor

/- The walk of seglog.Append: a payload that may be. -/
namespace Go.Proofs.YtcdjckdbcffgdaaGreatDoor
open Go.RowKit

theorem LgLeft.two {w w1 w' : World} {F F1 : Nat → Prop} {g p b : Nat} {st : DkSt} {l : LgSt} {s : DkSt × LgSt} (h0 : LgEnv w F g p b st l) (f1 : Fr (fun k => F k ∨ k = p ∨ k = b) w w1) (n1 : ∀ k, F1 k → F k ∨ w.heap.size ≤ k) (h : LgLeft w1 F1 g p b s w') : LgLeft w F g p b s w' := by
  obtain ⟨F2, e2, f2, n2⟩ := h
  have hs := f1.size
  have hp := h0.dk.lt
  have hb := h0.dk.own.lt
  refine ⟨F2, e2, f1.then f2 ?_, ?_⟩
  · rintro i hi (hi2 | hi2)
    · rcases n1 i hi2 with h | h
      · exact .inl h
      · omega
    · exact .inr hi2
  · intro i hi
    rcases n2 i hi with h | h
    · exact n1 i h
    · exact .inr (by omega)
theorem LgLeft.before {w w1 w' : World} {F : Nat → Prop} {g p b : Nat} {st : DkSt} {l : LgSt} {s : DkSt × LgSt} (h0 : LgEnv w F g p b st l) (hb : Below w.heap.size w w1) (h : LgLeft w1 F g p b s w') : LgLeft w F g p b s w' := h.two h0 (Fr.pure hb) fun _ hk => .inl hk
theorem app_turn {st : DkSt} {l : LgSt} {pl : List UInt8} (h1 : pl ≠ []) (h2 : pl.length ≤ 4096) (h3 : l.next < 1048576) (hf : fitsB l.lastIx.good pl.length l.cfg.ss = false) :
    lgAppend st l pl = if lgRoom st l pl.length true ≠ 0 then ((st, l), lgRoom st l pl.length true) else if (lgRotate st l).2 ≠ 0 then lgRotate st l else lgPut (lgRotate st l).1.1 (lgRotate st l).1.2 pl := by
  unfold lgAppend
  rw [if_neg h1, if_neg (by omega)]
  simp only [hf, Bool.not_false, if_true]
theorem app_stay {st : DkSt} {l : LgSt} {pl : List UInt8} (h1 : pl ≠ []) (h2 : pl.length ≤ 4096) (h3 : l.next < 1048576) (hf : fitsB l.lastIx.good pl.length l.cfg.ss = true) :
    lgAppend st l pl = if lgRoom st l pl.length false ≠ 0 then ((st, l), lgRoom st l pl.length false) else lgPut st l pl := by
  unfold lgAppend
  rw [if_neg h1, if_neg (by omega)]
  simp only [hf, Bool.not_true, Bool.false_eq_true, if_false]
theorem fits_good {good n ss : Int} (h : fitsB good n ss = true) (h2 : ss ≤ 65536) : good + 16 + n ≤ 1048576 := by
  unfold fitsB at h
  simp only [Bool.and_eq_true, Bool.or_eq_true, decide_eq_true_eq] at h
  omega

set_option maxRecDepth 100000 in
set_option maxHeartbeats 8000000 in
theorem append_good (w : World) (F : Nat → Prop) (g p b : Nat) (st : DkSt) (l : LgSt) (h0 : LgEnv w F g p b st l) (x : ByteArray) (hx1 : 1 ≤ x.size) (hx2 : x.size ≤ 4096) (hn : l.next < 1048576) :
    Calls Tryz.prog 14 #[.pointer (some ⟨g, 0, none⟩), .string x] w fun e w' => AppPost w F g p b l.next (lgAppend st l x.data.toList) e w' := by
  have H0 := Lib.hid h0
  have hfew := h0.ok.few
  have hpos := h0.ok.pos
  have hlen := h0.ok.len
  have HN := Lib.hid (lg_next w F g p l h0.lg (by omega) (by omega))
  have hne : x.data.toList ≠ [] := fun e => by have := size_toList x; rw [e] at this; simp at this; omega
  have he1 : x.toList.isEmpty = false := by rw [ByteArray.toList_eq, List.isEmpty_eq_false_iff]; exact hne
  have he2 : ¬ x.toList = [] := by rw [ByteArray.toList_eq]; exact hne
  have hd : decide ((4096 : Int) < ((x.size : Nat) : Int)) = false := by simp; omega
  have hd3 : ¬ (4096 : Int) < ((x.size : Nat) : Int) := by omega
  have hd2 : decide ((1048576 : Int) ≤ ((l.next : Nat) : Int)) = false := by simp; omega
  have hd4 : ¬ (1048576 : Int) ≤ ((l.next : Nat) : Int) := by omega
  have hgood := h0.ok.last.2.1
  have hge := good_ge l.lastIx
  have hpay : payOk x.data.toList := ⟨by rw [size_toList]; omega, by rw [size_toList]; omega⟩
  have HPAY := Lib.hid hpay
  have hss : 64 ≤ l.cfg.ss ∧ l.cfg.ss ≤ 65536 := by
    have hc := h0.ok.cfg
    unfold cfgOk at hc
    simp only [Bool.and_eq_true, decide_eq_true_eq] at hc
    omega
  obtain ⟨hs1, hs2⟩ := hss
  have HNE := Lib.hid hne
  have HLE := Lib.hid (show x.data.toList.length ≤ 4096 from by rw [size_toList]; omega)
  clear hne hpay h0
  go_enter Tryz.func14, Tryz.ntmps14
  go_wp2_with (go_at_call 12; refine HN.out.mono ?_; rintro e w2 ⟨rfl, hb2⟩; have HB2 := Lib.hid hb2; clear hb2)
  have henv := H0.out.pure HB2.out
  have hws := HB2.out.size
  have HENV := Lib.hid henv
  obtain ⟨sv, iv, xs, S, hc, _, _, _⟩ := henv.lg
  have hxl := hc.len
  obtain ⟨_, c1, _, _, _, _, _⟩ := hc.cs
  have hgl := hc.gl
  have HO := Lib.hid (fun W (hb : Below w2.heap.size w2 W) => lg_open W S g p l sv iv xs (hc.pure hb) (by omega) (by omega))
  have HLAST := Lib.hid (hc.last (by omega))
  obtain ⟨X, hX⟩ : ∃ X, X = xs[xs.length - 1]'(by omega) := ⟨_, rfl⟩
  rw [← hX] at HLAST
  have HO2 := Lib.hid (fun W (hb : Below w2.heap.size w2 W) => by have h9 := HO.out W hb; rw [← hX] at h9; exact h9)
  clear henv hc hX HO
  cases hfb : fitsB (l.lastIx.good : Int) (x.size : Int) l.cfg.ss
  all_goals
    have HFB := Lib.hid hfb
    clear hfb
    go_region_held3 (fun w' => w'.cell? ⟨g, 1, none⟩ = some (.int .i64 l.cfg.ss)) (first | exact c1 | exact c9 | go_keep) (first
      | (go_at_call 50; refine (HO2.out _ (by first | exact Below.refl _ _ | exact (Below.refl _ _).drew)).mono ?_; rintro e w3 ⟨rfl, hb3⟩; have HB3 := Lib.hid ((show Below w2.heap.size w2 _ by first | exact Below.refl _ _ | exact (Below.refl _ _).drew).trans hb3); have c9 := (hb3.cell (p := ⟨g, 1, none⟩) hgl).trans c1; unfold ixPtr; clear hb3)
      | (go_at_call 54; refine (ix_good _ X.1 l.ev l.lastIx.1 l.next l.lastIx.good X.2 _ (HLAST.out.pure HB3.out)).mono ?_; rintro e w4 ⟨rfl, rfl⟩)
      | (go_at_call 53; refine (fits_any (l.lastIx.good : Int) (x.size : Int) l.cfg.ss _ (by omega) (by omega) (by omega) (by omega) (fitsB (l.lastIx.good : Int) (x.size : Int) l.cfg.ss) rfl).mono ?_; rintro e w4 ⟨rfl, rfl⟩; rw [HFB.out]))
  · have HEQ := Lib.hid (app_turn (st := st) HNE.out HLE.out hn (by rw [size_toList]; exact HFB.out))
    rw [size_toList] at HEQ
    have henv3 := HENV.out.pure HB3.out
    have HENV3 := Lib.hid henv3
    have hbw3 := HB2.out.trans (HB3.out.mono hws)
    have HBW3 := Lib.hid hbw3
    clear henv3 hbw3
    go_wp2_with fail
    refine (lg_room w3 F g p b st l HENV3.out.lg HENV3.out.dk hpos hfew x hx1 hx2 true).mono ?_
    rintro e w4 ⟨rfl, hb4⟩
    have HBW4 := Lib.hid (HBW3.out.trans (hb4.mono HBW3.out.size))
    have HENV4 := Lib.hid (HENV3.out.pure hb4)
    clear hb4
    obtain ⟨RC, hRC⟩ : ∃ RC, RC = lgRoom st l x.size true := ⟨_, rfl⟩
    rw [← hRC] at HEQ ⊢
    clear hRC
    by_cases hz : RC = 0
    · have HE2 := Lib.hid (HEQ.out.trans (if_neg (by simpa using hz)))
      subst hz
      go_wp2_with fail
      refine (rotate_any w4 F g p b st l HENV4.out).mono ?_
      rintro e w5 ⟨rfl, hleft⟩
      have HLEFT := Lib.hid hleft
      clear hleft
      obtain ⟨RR, hRR⟩ : ∃ RR, RR = lgRotate st l := ⟨_, rfl⟩
      rw [← hRR] at HE2 HLEFT ⊢
      by_cases hz : RR.2 = 0
      · have HE3 := Lib.hid (HE2.out.trans (if_neg (by simpa using hz)))
        have hturn : RR.1.2 = l.turn ∧ mayB l.gen (l.segs ++ [(l.gen, (l.next : Int))]) = true := by
          rw [hRR] at hz ⊢
          unfold lgRotate at hz ⊢
          by_cases h9 : mayB l.gen (l.segs ++ [(l.gen, (l.next : Int))]) = false
          · rw [if_pos h9] at hz; simp at hz
          · rw [if_neg h9] at hz ⊢
            by_cases h8 : (runL (rotL l) st).2 ≠ 0
            · rw [if_pos h8] at hz; exact absurd hz h8
            · rw [if_neg h8]; exact ⟨rfl, by simpa using h9⟩
        have HT := Lib.hid hturn
        rw [hz]
        clear hz hturn hRR
        go_upto_if 51 with fail
        go_cut [] (fun wx => wx = w5)
        case first =>
          go_wp2
          go_meet
          exact rfl
        case rest =>
          subst hcut
          obtain ⟨F1, e1, f1, n1⟩ := HLEFT.out
          have ht := HT.out.1
          have hnx : RR.1.2.next = l.next := by rw [ht, turn_next]
          apply_assumption
          exact app_put _ F1 g p b RR.1.1 RR.1.2 e1 x HPAY.out (by rw [hnx]; exact hn) (by rw [ht, turn_last]; have := HLE.out; unfold SgIx.good; rw [segBytes_length]; simp [frames]; omega) w F l.next _ fun e w' h => by
            rw [HE3.out]
            obtain ⟨h1, h2⟩ := h
            rw [hnx] at h1
            exact ⟨h1, (h2.two HENV4.out f1 n1).before H0.out HBW4.out⟩
      · have HE3 := Lib.hid (HE2.out.trans (if_pos (by simpa using hz)))
        have hne : (RR.2 == 0) = false := by simpa using hz
        have hnn : (RR.2 != 0) = true := by simpa using hz
        have HZ := Lib.hid hz
        clear hz hRR
        go_wp2
        refine bodyPost_ret (v := .tuple #[.int .i64 0, .int .i64 RR.2]) (by simp [results, Tryz.results14, go_sem]) rfl ?_
        exact app_no (s := RR.1) HE3.out HZ.out (HLEFT.out.before H0.out HBW4.out)
    · have HE2 := Lib.hid (HEQ.out.trans (if_pos (by simpa using hz)))
      have hne : (RC == 0) = false := by simpa using hz
      have hnn : (RC != 0) = true := by simpa using hz
      have HZ := Lib.hid hz
      clear hz
      go_wp2
      refine bodyPost_ret (v := .tuple #[.int .i64 0, .int .i64 RC]) (by simp [results, Tryz.results14, go_sem]) rfl ?_
      exact app_no HE2.out HZ.out (H0.out.stay HBW4.out)
  · have HEQ := Lib.hid (app_stay (st := st) HNE.out HLE.out hn (by rw [size_toList]; exact HFB.out))
    rw [size_toList] at HEQ
    have henv3 := HENV.out.pure HB3.out
    have HENV3 := Lib.hid henv3
    have hbw3 := HB2.out.trans (HB3.out.mono hws)
    have HBW3 := Lib.hid hbw3
    clear henv3 hbw3
    go_wp2_with fail
    refine (lg_room w3 F g p b st l HENV3.out.lg HENV3.out.dk hpos hfew x hx1 hx2 false).mono ?_
    rintro e w4 ⟨rfl, hb4⟩
    have HBW4 := Lib.hid (HBW3.out.trans (hb4.mono HBW3.out.size))
    have HENV4 := Lib.hid (HENV3.out.pure hb4)
    clear hb4
    obtain ⟨RC, hRC⟩ : ∃ RC, RC = lgRoom st l x.size false := ⟨_, rfl⟩
    rw [← hRC] at HEQ ⊢
    clear hRC
    by_cases hz : RC = 0
    · have HE2 := Lib.hid (HEQ.out.trans (if_neg (by simpa using hz)))
      subst hz
      go_upto_if 47 with fail
      go_cut [] (fun wx => wx = w4)
      case first =>
        go_wp2
        go_meet
        exact rfl
      case rest =>
        subst hcut
        apply_assumption
        exact app_put _ F g p b st l HENV4.out x HPAY.out hn (by rw [size_toList]; have := fits_good HFB.out hs2; omega) w F l.next _ fun e w' h => by
          rw [HE2.out]
          exact ⟨h.1, h.2.before H0.out HBW4.out⟩
    · have HE2 := Lib.hid (HEQ.out.trans (if_pos (by simpa using hz)))
      have hne : (RC == 0) = false := by simpa using hz
      have hnn : (RC != 0) = true := by simpa using hz
      have HZ := Lib.hid hz
      clear hz
      go_wp2
      refine bodyPost_ret (v := .tuple #[.int .i64 0, .int .i64 RC]) (by simp [results, Tryz.results14, go_sem]) rfl ?_
      exact app_no HE2.out HZ.out (H0.out.stay HBW4.out)
end Go.Proofs.YtcdjckdbcffgdaaGreatDoor

/- Init, behind the loop: the steps are done. -/
namespace Go.Proofs.YtcdjckdbcffgdaaGreatDoor
open Go.RowKit

set_option maxRecDepth 100000 in
set_option maxHeartbeats 4000000 in
theorem init_mid (w wr : World) (p b : Nat) (st : DkSt) (q : Nat) (hq : q ≤ 1048576) (c : Cfg) (hc : cfgOk c = true) (hdk : st.dark = false) (hno : (fsGet st.fs fileN).isSome = false) (hp : Pow wr) (hbw : Below w.heap.size w wr) (hd : IsDk wr p b st) (r : ByteArray) (hr : r.data.toList = segHead q) (dB cB base : Nat) (hpb : p < w.heap.size ∧ b < w.heap.size)
    (hdB : w.heap.size ≤ dB ∧ dB < base) (hcB : w.heap.size ≤ cB ∧ cB < base) (hbase : base ≤ wr.heap.size)
    (k0 : wr.cell? ⟨dB, 0, none⟩ = some (.pointer (some ⟨p, 0, none⟩))) (c0 : wr.cell? ⟨cB, 0, none⟩ = some (.int .i64 c.ss)) (c1 : wr.cell? ⟨cB, 1, none⟩ = some (.int .i64 c.ev)) (c2 : wr.cell? ⟨cB, 2, none⟩ = some (.int .u8 c.v))
    (v : Value) (ss : Steps) (K : Nat → Prop) (hR : RowOk p b wr base v ss K) (hsl : ss.length ≤ 64) (hac : ss.acts = st.fs.map fun f => goneF f.name) {u0 u2 u4 u6 u7 u9 u10 u12 u13 u14 u15 u16 u17 u18 u19 u20 u21 u22 u23 u24 u25 u26 u27 u28 u29 u30 u31 u32 u33 u34 u35 u36 u37 u38 u39 u40 u41 u42 u43 u44 u45 u46 u47 u48 u49 u50 u51 u52 u53 u54 u55 u56 u57 u58 u59 u60 u61 u62 u63 u64 u65 u66 u67 u68 u69 u70 u71 u72 u73 u74 u75 u76 u77 u78 u79 u80 u81 u82 u83 u84 u85 u86 u87 u88 u89 u90 u91 u92 u93 u94 u95 u96 u97 u98 u99 u100 : Value} :
    Code.wp Tryz.prog (dropS 7 (Tryz.f9.body.getD .skip)) (bodyPost Tryz.prog Tryz.f9 fun e w' => InitPost p b (lgInit st (q : Int) c) w e w') { tmps := (List.toArray (u0 :: .int .i64 (q : Int) :: u2 :: .pointer (some ⟨dB, 0, none⟩) :: u4 :: .pointer (some ⟨cB, 0, none⟩) :: u6 :: u7 :: .string r :: u9 :: u10 :: v :: u12 :: u13 :: u14 :: u15 :: u16 :: u17 :: u18 :: u19 :: u20 :: u21 :: u22 :: u23 :: u24 :: u25 :: u26 :: u27 :: u28 :: u29 :: u30 :: u31 :: u32 :: u33 :: u34 :: u35 :: u36 :: u37 :: u38 :: u39 :: u40 :: u41 :: u42 :: u43 :: u44 :: u45 :: u46 :: u47 :: u48 :: u49 :: u50 :: u51 :: u52 :: u53 :: u54 :: u55 :: u56 :: u57 :: u58 :: u59 :: u60 :: u61 :: u62 :: u63 :: u64 :: u65 :: u66 :: u67 :: u68 :: u69 :: u70 :: u71 :: u72 :: u73 :: u74 :: u75 :: u76 :: u77 :: u78 :: u79 :: u80 :: u81 :: u82 :: u83 :: u84 :: u85 :: u86 :: u87 :: u88 :: u89 :: u90 :: u91 :: u92 :: u93 :: u94 :: u95 :: u96 :: u97 :: u98 :: u99 :: u100 :: [])), defers := [] } wr := by
  have hINIT : lgInit st (q : Int) c = if (runL (initF st q) st).2 ≠ 0 then ((runL (initF st q) st).1, (runL (initF st q) st).2, none) else ((runL (initF st q) st).1, 0, some ⟨c, 0, [(0, (q : Int))], [(q, [])]⟩) := by
    have hn : numberB (q : Int) = true := by unfold numberB; simp; omega
    unfold lgInit
    rw [if_neg (by rw [hc, hn]; simp), hdk, hno]
    simp
  have HINIT := Lib.hid hINIT
  have HW := Lib.hid hbw
  have HD := Lib.hid hd
  have HRR := Lib.hid hR
  have HAC := Lib.hid hac
  have HC := Lib.hid hc
  have HR := Lib.hid hr
  have hws := hbw.size
  have hrs : r.size ≤ 140737488355328 := by have h1 := size_of_list hr; rw [segHead_length] at h1; omega
  have HKK := Lib.hid (And.intro k0 (And.intro c0 (And.intro c1 c2)))
  clear hINIT hbw hd hR hac hc hr hdk hno c0 c1 c2
  obtain ⟨hp1, hp2⟩ := hpb
  obtain ⟨hd1, hd2⟩ := hdB
  obtain ⟨hc1, hc2⟩ := hcB
  obtain ⟨a0, n0, p0, rfl⟩ := own_shape HRR.out.own
  have hown : ∀ y, (Value.slice a0 n0 p0).ownBlock = some y → base ≤ y ∧ y < wr.heap.size := fun y e => ⟨own_ge HRR.out.own e, own_below HRR.out.own e⟩
  have HOWN := Lib.hid hown
  clear hown
  have hmf : ∀ (fn : Fn) (first cap : Array Value) (w : World), (Instr.makeFunc fn first cap).run Tryz.prog w = .ok (.func fn first cap) w := fun _ _ _ _ => rfl
  conv => arg 2; whnf
  go_wp2_with fail
  refine (name_any _ hp 0 (q : Int)).mono ?_
  rintro e w5 ⟨⟨nm, hnm, rfl⟩, hb5⟩
  have hns : nm.size = 20 := by have h1 := size_of_list hnm; have h2 := segName_len 0 q (by omega) hq; simp at h2; omega
  have hnml : nm.size ≤ maxLen := by unfold maxLen; omega
  have HNM := Lib.hid hnm
  have hs5 := hb5.size
  have HB5 := Lib.hid hb5
  have k0 := (hb5.cell (p := ⟨dB, 0, none⟩) (ltOfCell k0)).trans k0
  have hkl := ltOfCell k0
  clear hnm hns hb5
  go_wp2_with fail
  have hb6 := box2_below w5 (.cells #[.int .i64 0, .int .i64 (q : Int)] 76) (.cells #[.int .i64 0, .slice (some ⟨w5.heap.size, 0, none⟩) 1 1] 38)
  have hs6 : ((w5.alloc (.cells #[.int .i64 0, .int .i64 (q : Int)] 76)).alloc (.cells #[.int .i64 0, .slice (some ⟨w5.heap.size, 0, none⟩) 1 1] 38)).heap.size = w5.heap.size + 2 := by simp
  have hE : ((w5.alloc (.cells #[.int .i64 0, .int .i64 (q : Int)] 76)).alloc (.cells #[.int .i64 0, .slice (some ⟨w5.heap.size, 0, none⟩) 1 1] 38)).heap[w5.heap.size]? = some (.cells #[.int .i64 0, .int .i64 (q : Int)] 76 (0, 0)) := (Below.heap_alloc _ _ _ (by simp)).trans (alloc_at_top _ _ rfl)
  have hM : ((w5.alloc (.cells #[.int .i64 0, .int .i64 (q : Int)] 76)).alloc (.cells #[.int .i64 0, .slice (some ⟨w5.heap.size, 0, none⟩) 1 1] 38)).heap[w5.heap.size + 1]? = some (.cells #[.int .i64 0, .slice (some ⟨w5.heap.size, 0, none⟩) 1 1] 38 (0, 0)) := alloc_at_top _ _ (by simp)
  have k0' := (hb6.cell (p := ⟨dB, 0, none⟩) (ltOfCell k0)).trans k0
  generalize (w5.alloc (.cells #[.int .i64 0, .int .i64 (q : Int)] 76)).alloc (.cells #[.int .i64 0, .slice (some ⟨w5.heap.size, 0, none⟩) 1 1] 38) = w6 at *
  have HE := Lib.hid hE
  have HM := Lib.hid hM
  have HB6 := Lib.hid hb6
  have HS6 := Lib.hid hs6
  have hl6 : w5.heap.size + 2 ≤ w6.heap.size := by omega
  clear hE hM hb6 hs6
  refine (begin_any w6 p nm r hnml hrs (by omega) b (by omega)).mono ?_
  rintro e w7 ⟨vb, lb, Kb, rfl, ⟨gb, cb, rfl, hcb⟩, hlb, hab, hdb, hKb, hb7⟩
  rw [hlb]
  have hs7 := hb7.size
  have k0 := (hb7.cell (p := ⟨dB, 0, none⟩) (ltOfCell k0')).trans k0'
  have HB7 := Lib.hid (HB5.out.trans ((HB6.out.trans (hb7.mono HB6.out.size)).mono hs5))
  have HE7 := Lib.hid ((hb7.block _ (by omega)).trans HE.out)
  have HM7 := Lib.hid ((hb7.block _ (by omega)).trans HM.out)
  have hR7 : RowOk p b w7 base (.slice a0 n0 p0) ss K := HRR.out.pure HB7.out
  have HRO := Lib.hid hR7.own
  have HR7 := Lib.hid hR7
  have HDB := Lib.hid hdb
  have HKB := Lib.hid hKb
  have HAB := Lib.hid hab
  have HLB := Lib.hid hlb
  have hlc : lb.cells.length = 3 * 1 := by unfold Steps.cells; rw [List.length_map, hlb]
  have hone : ∀ u ∈ lb.cells, u.oneCell' = true := by
    intro u hu
    obtain ⟨y, _, rfl⟩ := List.mem_map.1 hu
    rfl
  have HLC := Lib.hid (And.intro hlc (And.intro hcb hone))
  obtain ⟨i0, hi, hz0, hz1, hz2⟩ := info_parts Tryz.infoStep
  have HI := Lib.hid hi
  have HZ0 := Lib.hid hz0
  have HZ1 := Lib.hid hz1
  have HZ2 := Lib.hid hz2
  clear hi hz0 hz1 hz2 hlc hcb hone hlb hab hdb hKb hb7 hR7 k0'
  unfold OwnSteps at HRO
  go_wp2_with (first
    | (refine wpList_append_lies _ rfl _ _ 86 rfl base 88 i0 _ 1 8 Tryz.underlying86 HI.out HZ0.out HZ1.out HZ2.out rfl (by omega) _ ss.length ss.cells rfl HRO.out ⟨gb, 0, none⟩ 3 cb lb.cells rfl HLC.out.1 HLC.out.2.1 HLC.out.2.2 (by omega) (by unfold maxLen; omega) (by omega) (by omega) w7.heap.size rfl ?_; intro gg cap w8 hown8 hgrow8 hat8 hlt8; have F8 := grown_fr hgrow8; have k0 := F8.cellAt k0 (fun e => by have := HOWN.out _ e; omega)))
  have hz8 := hgrow8.size
  have hR8 := HR7.out.more (l := lb) HDB.out (fun k hk => ⟨⟨(HKB.out k hk).2.1, (HKB.out k hk).2.2⟩, fun e => by have := HOWN.out k e; have := HKB.out k hk; omega⟩) hgrow8 (n := ss.length + 3) hown8 (by rw [HLB.out]) hat8
  have HR8 := Lib.hid hR8
  have hown8' : ∀ y, (Value.slice (some ⟨gg, 0, none⟩) (ss.length + 3) cap).ownBlock = some y → y = gg := fun y e => (Option.some.inj e).symm
  have hg8 : gg < wr.heap.size ∧ base ≤ gg ∨ gg = w7.heap.size := hat8.imp (fun e => by have := HOWN.out gg e; omega) id
  have hE8 := F8.heapAt HE7.out (fun e => by have := HOWN.out _ e; omega)
  have hM8 := F8.heapAt HM7.out (fun e => by have := HOWN.out _ e; omega)
  have HE8 := Lib.hid hE8
  have HM8 := Lib.hid hM8
  have FX8 := Lib.hid ((Fr.pure (S := fun k => base ≤ k) HB7.out).trans (F8.mono fun k _ e => (HOWN.out k e).1))
  clear F8 hR8 hE8 hM8 hown8 hgrow8
  have hst0 := init_step w8 dB (w5.heap.size + 1) p b 0 (.slice (some ⟨w5.heap.size, 0, none⟩) 1 1) [(0, (q : Int))] k0 ((cell_of_row _ _ _ _ _ _ HM8.out).trans rfl) ((cell_of_row _ _ _ _ _ _ HM8.out).trans rfl)
    ⟨some ⟨w5.heap.size, 0, none⟩, 1, rfl, .inr ⟨w5.heap.size, 0, rfl, fun i hi => by
      obtain rfl : i = 0 := by simp at hi; omega
      exact ⟨(cell_of_row _ _ _ _ _ _ HE8.out).trans rfl, (cell_of_row _ _ _ _ _ _ HE8.out).trans rfl⟩⟩⟩ (by simp) (fun k => k = dB ∨ k = w5.heap.size ∨ k = w5.heap.size + 1) (fun k hk => by omega) (.inl rfl) (.inr (.inr rfl)) (fun k hk => .inr (.inl (Option.some.inj hk).symm))
  have HST0 := Lib.hid hst0
  clear hst0
  go_wp2_with fail
  refine (unless_any w8 p nm hnml (by omega) b (by omega) (45, #[], #[.pointer (some ⟨dB, 0, none⟩), .pointer (some ⟨w5.heap.size + 1, 0, none⟩)]) (fun st => dkSwap st 0 [(0, (q : Int))]) _ HST0.out).mono ?_
  rintro e w9 ⟨f', K', rfl, hb9, hst, hK'⟩
  have HB9 := Lib.hid hb9
  have HST := Lib.hid hst
  have HK' := Lib.hid hK'
  have hs9 := hb9.size
  have hR9 := HR8.out.pure hb9
  have HR9 := Lib.hid hR9
  have HO9 := Lib.hid (World.ownsRow.alloc (show w9.ownsRow base 88 1 (.slice (some ⟨gg, 0, none⟩) (ss.length + 3) cap) (ss.length + 3) (ss ++ lb).cells from by have h := hR9.own; unfold OwnSteps at h; rw [List.length_append, HLB.out] at h; exact h) (.cells #[funcV f'] 88))
  clear hb9 hst hK' hR9 k0
  unfold funcV at HO9 ⊢
  go_wp2_with (first
    | (refine wpList_append_lies _ rfl _ _ 86 rfl base 88 i0 _ 1 8 Tryz.underlying86 HI.out HZ0.out HZ1.out HZ2.out rfl (by omega) _ (ss.length + 3) (ss ++ lb).cells rfl HO9.out ⟨w9.heap.size, 0, none⟩ 1 1 [.func (.func f'.1) f'.2.1 f'.2.2] rfl rfl (cells_new rfl rfl) (by simp [Value.oneCell']) (by omega) (by unfold maxLen; omega) (by omega) (by simp; omega) (w9.heap.size + 1) (by simp) ?_; intro gh ch w10 hown10 hgrow10 hat10 hlt10))
  have hz10 := hgrow10.size
  simp at hz10
  have F10 := grown_fr hgrow10
  have hb9a := (Below.refl w9.heap.size w9).alloc (Nat.le_refl _) (.cells #[.func (.func f'.1) f'.2.1 f'.2.2] 88)
  have hR10 := (HR9.out.pure hb9a).more (l := [(f', unlessF nm.data.toList (fun st => dkSwap st 0 [(0, (q : Int))]))]) (K2 := K') (fun y hy => by rw [List.mem_singleton.1 hy]; exact HST.out.pure hb9a) (fun k hk => ⟨⟨by have := (HST.out.lt k hk).1; simp; omega, (HST.out.lt k hk).2⟩, fun e => by have e2 : gg = k := Option.some.inj e; subst e2; rcases HK'.out gg hk with h | h <;> omega⟩) hgrow10 (n := ss.length + 3 + 1) hown10 (by rw [List.length_append, HLB.out]; rfl) (hat10.imp id fun e => by simp; omega)
  have HR10 := Lib.hid hR10
  have hgo : ∀ k, k = dB ∨ k = cB ∨ k = p ∨ k = b ∨ k = w5.heap.size ∨ k = w5.heap.size + 1 → ¬ ((Value.slice (some ⟨gg, 0, none⟩) (ss.length + 3) cap).ownBlock = some k) := fun k hk e => by have e2 : gg = k := Option.some.inj e; omega
  have hfx10 := ((FX8.out.trans (Fr.pure HB9.out)).alloc (.cells #[.func (.func f'.1) f'.2.1 f'.2.2] 88)).trans (F10.mono fun k _ e => by have e2 : gg = k := Option.some.inj e; omega)
  have FX10 := Lib.hid hfx10
  have hE10 := F10.heapAt (((Fr.pure (S := fun k => (Value.slice (some ⟨gg, 0, none⟩) (ss.length + 3) cap).ownBlock = some k) HB9.out).alloc (.cells #[.func (.func f'.1) f'.2.1 f'.2.2] 88)).heapAt HE8.out (hgo _ (by omega))) (hgo _ (by omega))
  have hM10 := F10.heapAt (((Fr.pure (S := fun k => (Value.slice (some ⟨gg, 0, none⟩) (ss.length + 3) cap).ownBlock = some k) HB9.out).alloc (.cells #[.func (.func f'.1) f'.2.1 f'.2.2] 88)).heapAt HM8.out (hgo _ (by omega))) (hgo _ (by omega))
  have HE10 := Lib.hid hE10
  have HM10 := Lib.hid hM10
  have hd10 : IsDk w10 p b st := HD.out.kept FX10.out (by omega) (by omega)
  have HD10 := Lib.hid hd10
  have hacts : Steps.acts (ss ++ lb ++ [(f', unlessF nm.data.toList fun st => dkSwap st 0 [(0, (q : Int))])]) = initF st q := by
    rw [Steps.acts_append, Steps.acts_append, HAC.out, HAB.out, HNM.out, HR.out, List.append_assoc]; rfl
  have HACTS := Lib.hid hacts
  have hlen : (ss ++ lb ++ [(f', unlessF nm.data.toList fun st => dkSwap st 0 [(0, (q : Int))])]).length = ss.length + 4 := by
    rw [List.length_append, List.length_append, HLB.out]; rfl
  have HLEN := Lib.hid hlen
  have HK0 := Lib.hid (FX10.out.cellAt HKK.out.1 (by omega))
  have hc0 := FX10.out.cellAt HKK.out.2.1 (by omega)
  have hc1 := FX10.out.cellAt HKK.out.2.2.1 (by omega)
  have hc2 := FX10.out.cellAt HKK.out.2.2.2 (by omega)
  have HCC := Lib.hid (And.intro hc0 (And.intro hc1 hc2))
  clear F10 hb9a hR10 hfx10 hE10 hM10 hd10 hacts hlen hown10 hgrow10 hat10 hlt10 hat8 hlt8 hc0 hc1 hc2 hgo hmf
  go_wp2_with fail
  refine (all_steps w10 p b base st _ _ (by rw [HLEN.out]; omega) (by rw [HLEN.out]; omega) HR10.out.own _ HR10.out.acts HD10.out (by omega) (by omega)).mono ?_
  rintro e w11 ⟨rfl, hd11, hf11⟩
  rw [HACTS.out] at hd11 ⊢
  obtain ⟨RR, hRR⟩ : ∃ RR, RR = runL (initF st q) st := ⟨_, rfl⟩
  rw [← hRR] at hd11 ⊢
  have HRES := HINIT.out
  rw [← hRR] at HRES
  have HRES2 := Lib.hid HRES
  clear HRES hRR
  have HD11 := Lib.hid hd11
  have HF10 : DFr p b w w10 := (HW.out.trans (FX10.out.below (B := w.heap.size) (by omega) (fun k hk => by omega)) |> Fr.pure)
  have HF11 := Lib.hid (HF10.trans hf11)
  have k0 := hf11.cellAt HK0.out (by omega)
  have c0 := hf11.cellAt HCC.out.1 (by omega)
  have c1 := hf11.cellAt HCC.out.2.1 (by omega)
  have c2 := hf11.cellAt HCC.out.2.2 (by omega)
  have hE11 := hf11.heapAt HE10.out (by omega)
  have hM11 := hf11.heapAt HM10.out (by omega)
  have m0 := (cell_of_row _ _ 0 _ _ _ hM11).trans rfl
  have m1 := (cell_of_row _ _ 1 _ _ _ hM11).trans rfl
  have e0 := (cell_of_row _ _ 0 _ _ _ hE11).trans rfl
  have e1 := (cell_of_row _ _ 1 _ _ _ hE11).trans rfl
  have E0 := Lib.hid e0
  have E1 := Lib.hid e1
  have hel := ltOfCell e0
  clear hd11 hf11 HF10 hE11 hM11 e0 e1
  by_cases h0 : RR.2 = 0
  · have HRES := Lib.hid (HRES2.out.trans (if_neg (by simpa using h0)))
    rw [h0]
    clear h0
    obtain ⟨ev, hev0, hev1, hev2, hev3⟩ := ev_nat HC.out
    rw [← hev0] at c1
    have HE0 := Lib.hid hev0
    have HE3 := Lib.hid hev3
    have hrs2 : r.size ≤ 1048576 := by have h1 := size_of_list HR.out; rw [segHead_length] at h1; omega
    clear hev0 hev3
    go_wp2_with fail
    refine (build_any r ev w11 hrs2 hev1 hev2).mono ?_
    rintro e w12 ⟨hb12, h | ⟨_, x, sv, hx, hsv, hix, rfl⟩⟩
    · rw [HR.out, sgScan_head hq] at h; exact absurd rfl h.1
    rw [HR.out, sgScan_head hq] at hix
    have k0 := (hb12.cell (p := ⟨dB, 0, none⟩) (ltOfCell k0)).trans k0
    have c0 := (hb12.cell (p := ⟨cB, 0, none⟩) (ltOfCell c0)).trans c0
    have c1 := (hb12.cell (p := ⟨cB, 1, none⟩) (ltOfCell c1)).trans c1
    have c2 := (hb12.cell (p := ⟨cB, 2, none⟩) (ltOfCell c2)).trans c2
    have m0 := (hb12.cell (p := ⟨w5.heap.size + 1, 0, none⟩) (ltOfCell m0)).trans m0
    have m1 := (hb12.cell (p := ⟨w5.heap.size + 1, 1, none⟩) (ltOfCell m1)).trans m1
    have hk0 := ltOfCell k0
    have hc0 := ltOfCell c0
    have hm0 := ltOfCell m0
    have HB12 := Lib.hid hb12
    have HX := Lib.hid hx
    have HSV := Lib.hid hsv
    have HIX := Lib.hid hix
    clear hb12 hx hsv hix
    go_wp2
    refine bodyPost_ret (v := .tuple #[.pointer (some ⟨w12.heap.size + 1, 0, none⟩), .int .i64 0]) (by simp [results, Tryz.results9, go_sem]) rfl ?_
    rw [HRES.out]
    exact init_post w w11 w12 p b RR.1 q c ev HE0 HE3 HF11 HD11 w5.heap.size (by omega) E0 E1 hel HB12 x sv HX HSV HIX
  · have HRES := Lib.hid (HRES2.out.trans (if_pos (by simpa using h0)))
    have hne : (RR.2 == 0) = false := by simpa using h0
    have hnn : (RR.2 != 0) = true := by simpa using h0
    clear h0
    go_wp2
    refine bodyPost_ret (v := .tuple #[.pointer none, .int .i64 RR.2]) (by simp [results, Tryz.results9, go_sem]) rfl ?_
    rw [HRES.out]
    exact ⟨HD11.out, HF11.out, rfl⟩
end Go.Proofs.YtcdjckdbcffgdaaGreatDoor
