/- The walk of the law SeglogNames. -/
import Derived.Test.YtcdjckdbcffgdaaGreatDoorMDk
import Derived.Test.YtcdjckdbcffgdaaGreatDoorMDg
import Derived.Test.YtcdjckdbcffgdaaGreatDoorMEd
import Derived.Test.YtcdjckdbcffgdaaGreatDoorMEe
import Derived.Test.YtcdjckdbcffgdaaGreatDoorMAp
import Derived.Test.YtcdjckdbcffgdaaGreatDoorMCf
namespace Go.Proofs.YtcdjckdbcffgdaaGreatDoor
open Go.RowKit Go.Maps Go.Sort

set_option maxRecDepth 100000 in
set_option maxHeartbeats 1000000 in
theorem init_nil (w : World) (c : Cfg) : Calls Tryz.prog 9 #[.pointer none, .int .i64 0, .agg #[.int .i64 c.ss, .int .i64 c.ev, .int .u8 c.v]] w fun e w' => e = .returned (.tuple #[.pointer none, .int .i64 2]) ∧ Below w.heap.size w w' := by
  go_enter Tryz.func9, Tryz.ntmps9
  go_wp2_with fail
  refine (Header_any 0 _).mono ?_
  rintro e w1 ⟨⟨r, hr, rfl⟩, hb1⟩
  have HB := Lib.hid ((box2_below w (.cells #[.pointer none] 26) (.cells #[.int .i64 c.ss, .int .i64 c.ev, .int .u8 c.v] 23)).trans (hb1.mono (by simp; omega)))
  have k0 : w1.cell? ⟨w.heap.size, 0, none⟩ = some (.pointer none) := by rw [hb1.cell (by simp; omega), World.cell?_alloc_past _ _ _ (by simp), World.cell?_alloc_at _ _ _ _ rfl]; rfl
  clear hb1 hr
  rw [hdF_code]
  go_wp2
  refine bodyPost_ret (v := .tuple #[.pointer none, .int .i64 2]) (by simp [results, Tryz.results9, go_sem]) rfl ?_
  exact ⟨rfl, HB.out⟩
set_option maxRecDepth 100000 in
set_option maxHeartbeats 1000000 in
theorem open_nil (w : World) (c : Cfg) : Calls Tryz.prog 19 #[.pointer none, .agg #[.int .i64 c.ss, .int .i64 c.ev, .int .u8 c.v]] w fun e w' => e = .returned (.tuple #[.pointer none, .int .i64 2]) ∧ Below w.heap.size w w' := by
  go_enter Tryz.func19, Tryz.ntmps19
  go_wp2
  refine bodyPost_ret (v := .tuple #[.pointer none, .int .i64 2]) (by simp [results, Tryz.results19, go_sem]) rfl ?_
  exact ⟨rfl, (Below.refl _ _).alloc (Nat.le_refl _) _⟩

def nmCf (k : Nat) : Cfg := [(⟨63, 1, 1⟩ : Cfg), ⟨65537, 1, 1⟩, ⟨64, 0, 1⟩, ⟨64, 65, 1⟩, ⟨64, 1, 0⟩, ⟨64, 1, 4⟩].getD k ⟨0, 0, 0⟩
theorem nmCf_bad {k : Nat} (h : k < 6) : cfgOk (nmCf k) = false ∧ 0 ≤ (nmCf k).v ∧ (nmCf k).v ≤ 255 := by
  obtain rfl | rfl | rfl | rfl | rfl | rfl : k = 0 ∨ k = 1 ∨ k = 2 ∨ k = 3 ∨ k = 4 ∨ k = 5 := by omega
  all_goals decide
def nmArr : Array Value := #[.int .i64 63, .int .i64 1, .int .u8 1, .int .i64 65537, .int .i64 1, .int .u8 1, .int .i64 64, .int .i64 0, .int .u8 1, .int .i64 64, .int .i64 65, .int .u8 1, .int .i64 64, .int .i64 1, .int .u8 0, .int .i64 64, .int .i64 1, .int .u8 4]
theorem nmArr_at {k : Nat} (h : k < 6) : nmArr[k * 3]? = some (.int .i64 (nmCf k).ss) ∧ nmArr[k * 3 + 1]? = some (.int .i64 (nmCf k).ev) ∧ nmArr[k * 3 + 2]? = some (.int .u8 (nmCf k).v) := by
  obtain rfl | rfl | rfl | rfl | rfl | rfl : k = 0 ∨ k = 1 ∨ k = 2 ∨ k = 3 ∨ k = 4 ∨ k = 5 := by omega
  all_goals exact ⟨rfl, rfl, rfl⟩

theorem Fresh.disk {w0 w w' : World} {F : Nat → Prop} {g p b : Nat} {st st' : DkSt} {l : LgSt} (h : Fresh w0 w F g p b st l) (hd : IsDk w' p b st') (hf : DFr p b w w') : Fresh w0 w' F g p b st' l := by
  have h1 := h.fp
  have h2 := h.fb
  exact ⟨h.env.disk hd hf, h.far, h1, h2, h.below.trans (hf.below h.below.size fun k hk e => by rcases e with rfl | rfl <;> omega)⟩
theorem opened_none {r : DkSt × Int × Option LgSt} {c : Int} {p b : Nat} {w : World} {f : FuncId} {args : Array Value} (hn : r.2.2.isNone = true) (hc : r.2.1 = c) (h : Calls Tryz.prog f args w fun e w' => InitPost p b r w e w') : Calls Tryz.prog f args w fun e w' => e = .returned (.tuple #[.pointer none, .int .i64 c]) ∧ DFr p b w w' := by
  obtain ⟨s, c', o⟩ := r
  cases o with
  | some l => cases hn
  | none =>
    subst hc
    exact h.mono fun e w' ⟨_, h2, h3⟩ => ⟨h3, h2⟩
theorem copy_far {st : DkSt} {w w' : World} {e : Ending} (h : CopyPost st w e w') : ∃ q c, e = .returned (.pointer (some ⟨q, 0, none⟩)) ∧ IsDk w' q c st ∧ w.heap.size ≤ q ∧ w.heap.size ≤ c ∧ Below w.heap.size w w' := by
  obtain ⟨hb, q, c, h1, h2, h3, h4⟩ := h
  exact ⟨q, c, h3, h4, h1, h2, hb⟩

set_option maxRecDepth 100000 in
set_option maxHeartbeats 4000000 in
theorem seglogNames_any (w : World) (hl : Libs w) : Calls Tryz.prog 4 #[] w fun e w' => e = .returned (.bool true) ∧ Below w.heap.size w w' := by
  have HL := Lib.hid hl
  clear hl
  go_enter Tryz.func4, Tryz.ntmps4
  go_wp2_with fail
  refine (works_any _ HL.out.pow).mono ?_
  rintro e w1 ⟨rfl, hb1⟩
  have HB1 := Lib.hid hb1
  clear hb1
  go_wp2_with fail
  -- nm:begin
  obtain ⟨ab, hab⟩ : ∃ ab, ab = w1.heap.size := ⟨_, rfl⟩
  obtain ⟨wa, hwa⟩ : ∃ wa, wa = w1.alloc (.cells nmArr 23) := ⟨_, rfl⟩
  have hba : Below w1.heap.size w1 wa := by rw [hwa]; exact (Below.refl _ _).alloc (Nat.le_refl _) _
  have hka : wa.heap[ab]? = some (.cells nmArr 23 (0, 0)) := by rw [hwa, hab]; exact heap_alloc_new _ _
  have HBa := Lib.hid (HB1.out.trans (hba.mono HB1.out.size))
  have HKa := Lib.hid hka
  unfold nmArr at hwa
  rw [← hwa, ← hab]
  clear hwa hab hba hka
  go_loopw [84] (fun i wr => ∃ k : Nat, i = .int .i64 (k : Int) ∧ k ≤ 6 ∧ Hid (Below wa.heap.size wa wr)) (fun i _ => 6 - (intOf i).toNat)
  case atStart => exact ⟨0, rfl, by omega, Lib.hid (Below.refl _ _)⟩
  case round =>
    obtain ⟨k, rfl, hk, HB⟩ := hrel
    by_cases hlt : k < 6
    · obtain ⟨hbad, hv0, hv1⟩ := nmCf_bad hlt
      obtain ⟨a0, a1, a2⟩ := nmArr_at hlt
      have hkr := (HB.out.block _ (lt_of_block HKa.out)).trans HKa.out
      have c0 := (cell_of_row _ _ (k * 3) _ _ _ hkr).trans a0
      have c1 := (cell_of_row _ _ (k * 3 + 1) _ _ _ hkr).trans a1
      have c2 := (cell_of_row _ _ (k * 3 + 2) _ _ _ hkr).trans a2
      obtain ⟨cf, hcf⟩ : ∃ cf, cf = nmCf k := ⟨_, rfl⟩
      rw [← hcf] at hbad hv0 hv1 c0 c1 c2
      clear hcf a0 a1 a2 hkr
      obtain ⟨wb, hwb⟩ : ∃ wb, wb = wr.alloc (.cells #[.int .i64 cf.ss, .int .i64 cf.ev, .int .u8 cf.v] 23) := ⟨_, rfl⟩
      have hbb : Below wr.heap.size wr wb := by rw [hwb]; exact (Below.refl _ _).alloc (Nat.le_refl _) _
      have hkb : wb.heap[wr.heap.size]? = some (.cells #[.int .i64 cf.ss, .int .i64 cf.ev, .int .u8 cf.v] 23 (0, 0)) := by rw [hwb]; exact heap_alloc_new _ _
      go_wp2_with fail
      rw [← hwb]
      clear hwb
      refine (dk_new wb 1000 (by decide)).mono ?_
      rintro e wc ⟨hbc, h1⟩
      rw [show dkLoad 1000 [] = (some ⟨[], 1000, -1, false⟩, 0) from rfl] at h1
      obtain ⟨p, b, hpg, hbg, rfl, hd⟩ := h1
      have hkc := (hbc.block _ (lt_of_block hkb)).trans hkb
      have b0 : wc.cell? ⟨wr.heap.size, 0, none⟩ = some (.int .i64 cf.ss) := (cell_of_row _ _ _ _ _ _ hkc).trans rfl
      have b1 : wc.cell? ⟨wr.heap.size, 1, none⟩ = some (.int .i64 cf.ev) := (cell_of_row _ _ _ _ _ _ hkc).trans rfl
      have b2 : wc.cell? ⟨wr.heap.size, 2, none⟩ = some (.int .u8 cf.v) := (cell_of_row _ _ _ _ _ _ hkc).trans rfl
      have hne : wr.heap.size ≠ p ∧ wr.heap.size ≠ b := by have := lt_of_block hkb; omega
      have HBc := Lib.hid (hbb.trans (hbc.mono hbb.size))
      have hsc := HBc.out.size
      have hpw : wr.heap.size ≤ p ∧ wr.heap.size ≤ b := by have := hbb.size; omega
      clear hbb hkb hbc hkc c0 c1 c2
      go_wp2_with fail
      refine (init_bad wc p b _ hd 0 cf hv0 hv1 (.inl hbad)).mono ?_
      rintro e wd ⟨hd2, hf2, rfl⟩
      have b0 := hf2.cellAt b0 (fun e => by rcases e with e | e; exact hne.1 e; exact hne.2 e)
      have b1 := hf2.cellAt b1 (fun e => by rcases e with e | e; exact hne.1 e; exact hne.2 e)
      have b2 := hf2.cellAt b2 (fun e => by rcases e with e | e; exact hne.1 e; exact hne.2 e)
      have HBd := Lib.hid (HBc.out.trans (hf2.below (B := wr.heap.size) HBc.out.size (fun k hk e => by rcases e with rfl | rfl <;> omega)))
      have hsd := HBd.out.size
      clear hf2 hd
      go_wp2_with fail
      refine (open_bad wd p b _ hd2 cf hv0 hv1 hbad).mono ?_
      rw [show lgOpen ⟨[], 1000, -1, false⟩ cf = (⟨[], 1000, -1, false⟩, 1, none) from by unfold lgOpen; rw [if_pos hbad]]
      rintro e we ⟨hd3, hf3, rfl⟩
      have b0 := hf3.cellAt b0 (fun e => by rcases e with e | e; exact hne.1 e; exact hne.2 e)
      have b1 := hf3.cellAt b1 (fun e => by rcases e with e | e; exact hne.1 e; exact hne.2 e)
      have b2 := hf3.cellAt b2 (fun e => by rcases e with e | e; exact hne.1 e; exact hne.2 e)
      have HBe := Lib.hid (HBd.out.trans (hf3.below (B := wr.heap.size) HBd.out.size (fun k hk e => by rcases e with rfl | rfl <;> omega)))
      clear hf3 hd2 hd3
      go_wp2_with fail
      refine (mayConfig_any we cf hv0 hv1).mono ?_
      rintro e wf ⟨rfl, hbf⟩
      rw [hbad]
      have HBf := Lib.hid (HB.out.trans ((HBe.out.trans (hbf.mono HBe.out.size)).mono HB.out.size))
      clear hbf
      go_wp2
      refine ⟨⟨k + 1, by go_num, by omega, HBf⟩, ?_⟩
      simp [intOf]; omega
    obtain rfl : k = 6 := by omega
    have HB2 := Lib.hid (HBa.out.trans (HB.out.mono HBa.out.size))
    obtain ⟨w2, hw2⟩ : ∃ w2, w2 = wr := ⟨_, rfl⟩
    subst hw2
    clear HBa HKa HB hlt hk
    go_wp2_with fail
    refine (mayConfig_any _ ⟨64, 1, 1⟩ (by decide) (by decide)).mono ?_
    rintro e w3 ⟨rfl, hb3⟩
    have HB3 := Lib.hid (HB2.out.trans (hb3.mono HB2.out.size))
    rw [show cfgOk ⟨64, 1, 1⟩ = true from by decide]
    clear hb3
    go_wp2_with fail
    refine (mayConfig_any _ ⟨65536, 64, 3⟩ (by decide) (by decide)).mono ?_
    rintro e w4 ⟨rfl, hb4⟩
    have HB4 := Lib.hid (HB3.out.trans (hb4.mono HB3.out.size))
    rw [show cfgOk ⟨65536, 64, 3⟩ = true from by decide]
    clear hb4
    go_wp2_with fail
    refine (dk_new w4 2000 (by decide)).mono ?_
    rintro e w5 ⟨hb5, h1⟩
    rw [show dkLoad 2000 [] = (some nmA0, 0) from rfl] at h1
    obtain ⟨p, b, hpg, hbg, rfl, hd⟩ := h1
    have HB5 := Lib.hid (HB4.out.trans (hb5.mono HB4.out.size))
    have HD_5 := Lib.hid hd
    have hpp : w.heap.size ≤ p := Nat.le_trans HB4.out.size hpg
    have hbb : w.heap.size ≤ b := Nat.le_trans HB4.out.size hbg
    have hlb : ¬ LibB p ∧ ¬ LibB b := ⟨fun e => by have := HL.out.lt p e; omega, fun e => by have := HL.out.lt b e; omega⟩
    clear hb5 hd hpg hbg
    go_wp2_with fail
    refine (config_any _ ).mono ?_
    rintro e w6 ⟨rfl, hb6⟩
    have HB6 := Lib.hid (HB5.out.trans (hb6.mono HB5.out.size))
    have HD_6 := Lib.hid (HD_5.out.pure hb6)
    clear hb6
    go_wp2_with fail
    refine ((show Calls _ _ _ _ _ from by have h := open_go w6 (HL.out.pure HB6.out) p b nmA0 HD_6.out hlb (by simp [nmA0]) exCfg (by decide) (by decide) (by decide); rw [nm_open0] at h; exact h)).mono ?_
    rintro e w7 ⟨hd7, hf7, rfl⟩
    have HD_7 := Lib.hid hd7
    have HB7 := Lib.hid (HB6.out.trans (hf7.below (B := w.heap.size) HB6.out.size (fun k hk e => by rcases e with rfl | rfl <;> omega)))
    clear hd7 hf7
    go_wp2_with fail
    refine (config_any _ ).mono ?_
    rintro e w8 ⟨rfl, hb8⟩
    have HB8 := Lib.hid (HB7.out.trans (hb8.mono HB7.out.size))
    have HD_8 := Lib.hid (HD_7.out.pure hb8)
    clear hb8
    go_wp2_with fail
    refine (init_bad w8 p b nmA0 HD_8.out (-1) exCfg (by decide) (by decide) (.inr (by decide))).mono ?_
    rintro e w9 ⟨hd9, hf9, rfl⟩
    have HD_9 := Lib.hid hd9
    have HB9 := Lib.hid (HB8.out.trans (hf9.below (B := w.heap.size) HB8.out.size (fun k hk e => by rcases e with rfl | rfl <;> omega)))
    clear hd9 hf9
    go_wp2_with fail
    refine (config_any _ ).mono ?_
    rintro e w10 ⟨rfl, hb10⟩
    have HB10 := Lib.hid (HB9.out.trans (hb10.mono HB9.out.size))
    have HD_10 := Lib.hid (HD_9.out.pure hb10)
    clear hb10
    go_wp2_with fail
    refine (init_bad w10 p b nmA0 HD_10.out 1048577 exCfg (by decide) (by decide) (.inr (by decide))).mono ?_
    rintro e w11 ⟨hd11, hf11, rfl⟩
    have HD_11 := Lib.hid hd11
    have HB11 := Lib.hid (HB10.out.trans (hf11.below (B := w.heap.size) HB10.out.size (fun k hk e => by rcases e with rfl | rfl <;> omega)))
    clear hd11 hf11
    go_wp2_with fail
    refine (config_any _ ).mono ?_
    rintro e w12 ⟨rfl, hb12⟩
    have HB12 := Lib.hid (HB11.out.trans (hb12.mono HB11.out.size))
    have HD_12 := Lib.hid (HD_11.out.pure hb12)
    clear hb12
    go_wp2_with fail
    have hgo := init_go w12 (below_pow HB12.out HL.out.pow) p b nmA0 HD_12.out 7 (by decide) exCfg (by decide) (by decide) (by decide) rfl rfl
    rw [show ((7 : Nat) : Int) = 7 from rfl, nm_init] at hgo
    refine hgo.mono ?_
    intro e w13 h13
    obtain ⟨g, F, rfl, hf13⟩ := Fresh.init HL.out.pow HB12.out HD_12.out hpp hbb (newL_ok (c := exCfg) (by decide) (q := 7) (by decide)) h13
    have HF_13 := Lib.hid hf13
    have HB13 := Lib.hid hf13.below
    clear hf13 h13 hgo
    go_wp2_with fail
    refine (config_any _ ).mono ?_
    rintro e w14 ⟨rfl, hb14⟩
    have HB14 := Lib.hid (HB13.out.trans (hb14.mono HB13.out.size))
    have HF_14 := Lib.hid (HF_13.out.pure hb14)
    clear hb14
    go_wp2_with fail
    refine (init_no w14 p b nmA1 HF_14.out.env.dk 7 exCfg (by decide) (by decide) (by decide) (by decide) (.inr nm_file) 6 rfl).mono ?_
    rintro e w15 ⟨hd15, hf15, rfl⟩
    have HF_15 := Lib.hid (HF_14.out.disk hd15 hf15)
    have HB15 := Lib.hid HF_15.out.below
    clear hd15 hf15
    go_wp2_with fail
    refine (lg_first w15 F g p _ HF_15.out.env.lg HF_15.out.env.ok.pos).mono ?_
    rintro e wx ⟨rfl, rfl⟩
    rw [show (newL exCfg 7).first = 7 from rfl]
    go_wp2_with fail
    refine (lg_next _ F g p _ HF_15.out.env.lg (by rw [HF_15.out.env.ok.len]; exact HF_15.out.env.ok.pos) (by rw [HF_15.out.env.ok.len]; have := HF_15.out.env.ok.few; omega)).mono ?_
    rintro e w16 ⟨rfl, hb16⟩
    have HB16 := Lib.hid (HB15.out.trans (hb16.mono HB15.out.size))
    have HF_16 := Lib.hid (HF_15.out.pure hb16)
    rw [show (newL exCfg 7).next = 7 from rfl]
    clear hb16
    go_wp2_with fail
    have happ := lg_append w16 F g p b nmA1 (newL exCfg 7) HF_16.out.env ⟨#[]⟩ (by decide)
    rw [show lgAppend nmA1 (newL exCfg 7) (⟨#[]⟩ : ByteArray).data.toList = ((nmA1, newL exCfg 7), 4) from app_empty _ _] at happ
    refine happ.mono ?_
    rintro e w17 ⟨rfl, hl17⟩
    rw [show (if (4 : Int) = 0 then ((newL exCfg 7).next : Int) else 0) = 0 from rfl]
    obtain ⟨F17, hf17⟩ := HF_16.out.left hl17
    have HF_17 := Lib.hid hf17
    have HB17 := Lib.hid hf17.below
    clear hl17 hf17 happ
    have HX4 := Lib.hid (show (1 : Nat) = 1 from rfl)
    go_wp2_with fail
    refine (manyC_any w17 4097 (by decide) 120).mono ?_
    rintro e w18 ⟨⟨rl, hrl, rfl⟩, hb18⟩
    have HF_18 := Lib.hid (HF_17.out.pure hb18)
    have HB18 := Lib.hid HF_18.out.below
    have hrl : rl.data.toList = List.replicate 4097 120 := hrl
    have hzrl : rl.size = 4097 := by rw [size_of_list hrl, List.length_replicate]
    clear hb18
    go_wp2_with fail
    have happ := lg_append w18 F17 g p b nmA1 (newL exCfg 7) HF_18.out.env rl (by omega)
    rw [app_long _ _ (by rw [hrl, List.length_replicate]; decide)] at happ
    refine happ.mono ?_
    rintro e w19 ⟨rfl, hl19⟩
    rw [show (if ((nmA1, newL exCfg 7), (40 : Int)).2 = 0 then ((newL exCfg 7).next : Int) else 0) = 0 from rfl]
    obtain ⟨F19, hf19⟩ := HF_18.out.left hl19
    have HF_19 := Lib.hid hf19
    have HB19 := Lib.hid hf19.below
    clear hl19 hf19 happ hrl hzrl
    go_wp2_with fail
    refine (manyC_any w19 100 (by decide) 120).mono ?_
    rintro e w20 ⟨⟨rs, hrs, rfl⟩, hb20⟩
    have HF_20 := Lib.hid (HF_19.out.pure hb20)
    have HB20 := Lib.hid HF_20.out.below
    have hrs : rs.data.toList = List.replicate 100 120 := hrs
    have hzrs : rs.size = 100 := by rw [size_of_list hrs, List.length_replicate]
    clear hb20
    go_wp2_with fail
    have happ := lg_append w20 F19 g p b nmA1 (newL exCfg 7) HF_20.out.env rs (by omega)
    rw [hrs, show lgAppend nmA1 (newL exCfg 7) (List.replicate 100 120) = nmR1 from rfl] at happ
    refine happ.mono ?_
    rintro e w21 ⟨rfl, hl21⟩
    rw [if_pos nm_one.1, nm_one.1, show ((newL exCfg 7).next : Int) = 7 from rfl]
    obtain ⟨F21, hf21⟩ := HF_20.out.left hl21
    have HF_21 := Lib.hid hf21
    have HB21 := Lib.hid hf21.below
    have HLK := Lib.hid hf21.env.ok
    clear hl21 hf21 happ hrs hzrs
    go_wp2_with fail
    refine (lg_read_no _ F21 g p b _ _ HF_21.out.env (6) 52 (.inl ⟨by decide, by rw [nm_one.2.2.1]; decide, rfl⟩)).mono ?_
    rintro e w22 ⟨rfl, hb22⟩
    have HB22 := Lib.hid (HB21.out.trans (hb22.mono HB21.out.size))
    have HF_22 := Lib.hid (HF_21.out.pure hb22)
    clear hb22
    go_wp2_with fail
    refine (lg_read_no _ F21 g p b _ _ HF_22.out.env (-1) 5 (.inr (.inl ⟨by decide, rfl⟩))).mono ?_
    rintro e w23 ⟨rfl, hb23⟩
    have HB23 := Lib.hid (HB22.out.trans (hb23.mono HB22.out.size))
    have HF_23 := Lib.hid (HF_22.out.pure hb23)
    clear hb23
    go_wp2_with fail
    refine (lg_read_no _ F21 g p b _ _ HF_23.out.env (8) 5 (.inr (.inr ⟨by decide, by rw [nm_one.2.2.1]; decide, by rw [nm_one.2.1]; decide, rfl⟩))).mono ?_
    rintro e w24 ⟨rfl, hb24⟩
    have HB24 := Lib.hid (HB23.out.trans (hb24.mono HB23.out.size))
    have HF_24 := Lib.hid (HF_23.out.pure hb24)
    clear hb24
    go_wp2_with fail
    refine (lg_range_no _ F21 g p b _ _ HF_24.out.env 6 7 52 (.inr (.inl ⟨by decide, by decide, by rw [nm_one.2.2.1]; decide, rfl⟩))).mono ?_
    rintro e w25 ⟨rfl, hb25⟩
    have HB25 := Lib.hid (HB24.out.trans (hb25.mono HB24.out.size))
    have HF_25 := Lib.hid (HF_24.out.pure hb25)
    clear hb25
    go_wp2_with fail
    refine (lg_range_no _ F21 g p b _ _ HF_25.out.env 8 7 1 (.inl ⟨.inr (by decide), rfl⟩)).mono ?_
    rintro e w26 ⟨rfl, hb26⟩
    have HB26 := Lib.hid (HB25.out.trans (hb26.mono HB25.out.size))
    have HF_26 := Lib.hid (HF_25.out.pure hb26)
    clear hb26
    go_wp2_with fail
    refine (lg_range_no _ F21 g p b _ _ HF_26.out.env 7 9 5 (.inr (.inr ⟨by decide, by decide, by rw [nm_one.2.2.1]; decide, by rw [nm_one.2.1]; decide, rfl⟩))).mono ?_
    rintro e w27 ⟨rfl, hb27⟩
    have HB27 := Lib.hid (HB26.out.trans (hb27.mono HB26.out.size))
    have HF_27 := Lib.hid (HF_26.out.pure hb27)
    clear hb27
    go_wp2_with fail
    have heq := lg_range_eq w27 F21 g p b _ _ HF_27.out.env 8 (by rw [nm_one.2.2.1]; decide) (by rw [nm_one.2.1]; exact Nat.le_refl _)
    rw [show ((8 : Nat) : Int) = 8 from rfl] at heq
    refine heq.mono ?_
    rintro e w28 ⟨rfl, hb28⟩
    have HF_28 := Lib.hid (HF_27.out.pure hb28)
    have HB28 := Lib.hid HF_28.out.below
    have HD_28 := Lib.hid HF_28.out.env.dk
    clear hb28 heq
    go_wp2_with fail
    refine (dk_create w28 p b _ HD_28.out ⟨#[115, 48, 48, 48, 48, 48, 48, 48, 57, 45, 48, 48, 48, 48, 48, 48, 48, 48, 48, 49]⟩ (by decide)).mono ?_
    rintro e w29 ⟨rfl, hd29, hf29⟩
    have hd29 : IsDk w29 p b nmB1.1 := hd29
    change Hid (IsDk w28 p b _) at HD_28
    have HD_29 := Lib.hid hd29
    have HB29 := Lib.hid (HB28.out.trans (hf29.below (B := w.heap.size) HB28.out.size (fun k hk e => by rcases e with rfl | rfl <;> omega)))
    clear hd29 hf29
    rw [show (dkCreate nmR1.1.1 (⟨#[115, 48, 48, 48, 48, 48, 48, 48, 57, 45, 48, 48, 48, 48, 48, 48, 48, 48, 48, 49]⟩ : ByteArray).data.toList).2 = 0 from nm_one.2.2.2.1]
    go_wp2_with fail
    refine (dk_create w29 p b _ HD_29.out ⟨#[110, 48, 48, 48, 48, 48, 48, 48, 48, 48, 49]⟩ (by decide)).mono ?_
    rintro e w30 ⟨rfl, hd30, hf30⟩
    have hd30 : IsDk w30 p b nmB2.1 := hd30
    change Hid (IsDk w29 p b _) at HD_29
    have HD_30 := Lib.hid hd30
    have HB30 := Lib.hid (HB29.out.trans (hf30.below (B := w.heap.size) HB29.out.size (fun k hk e => by rcases e with rfl | rfl <;> omega)))
    clear hd30 hf30
    rw [show (dkCreate nmB1.1 (⟨#[110, 48, 48, 48, 48, 48, 48, 48, 48, 48, 49]⟩ : ByteArray).data.toList).2 = 0 from nm_one.2.2.2.2.1]
    go_wp2_with fail
    refine (dk_create w30 p b _ HD_30.out ⟨#[77, 65, 78, 73, 70, 69, 83, 84, 46, 110, 101, 119]⟩ (by decide)).mono ?_
    rintro e w31 ⟨rfl, hd31, hf31⟩
    have hd31 : IsDk w31 p b nmB3.1 := hd31
    change Hid (IsDk w30 p b _) at HD_30
    have HD_31 := Lib.hid hd31
    have HB31 := Lib.hid (HB30.out.trans (hf31.below (B := w.heap.size) HB30.out.size (fun k hk e => by rcases e with rfl | rfl <;> omega)))
    clear hd31 hf31
    rw [show (dkCreate nmB2.1 (⟨#[77, 65, 78, 73, 70, 69, 83, 84, 46, 110, 101, 119]⟩ : ByteArray).data.toList).2 = 0 from nm_one.2.2.2.2.2.1]
    go_wp2_with fail
    refine (dk_append w31 p b _ HD_31.out ⟨#[115, 48, 48, 48, 48, 48, 48, 48, 48, 45, 48, 48, 48, 48, 48, 48, 48, 48, 48, 55]⟩ ⟨#[116, 111, 114, 110]⟩ (by decide) (by decide)).mono ?_
    rintro e w32 ⟨rfl, hd32, hf32⟩
    have hd32 : IsDk w32 p b nmB4.1 := hd32
    change Hid (IsDk w31 p b _) at HD_31
    have HD_32 := Lib.hid hd32
    have HB32 := Lib.hid (HB31.out.trans (hf32.below (B := w.heap.size) HB31.out.size (fun k hk e => by rcases e with rfl | rfl <;> omega)))
    clear hd32 hf32
    rw [show (dkAppend nmB3.1 (⟨#[115, 48, 48, 48, 48, 48, 48, 48, 48, 45, 48, 48, 48, 48, 48, 48, 48, 48, 48, 55]⟩ : ByteArray).data.toList (⟨#[116, 111, 114, 110]⟩ : ByteArray).data.toList).2 = 0 from nm_one.2.2.2.2.2.2.1]
    go_wp2_with fail
    refine (config_any _ ).mono ?_
    rintro e w33 ⟨rfl, hb33⟩
    have HB33 := Lib.hid (HB32.out.trans (hb33.mono HB32.out.size))
    have HD_33 := Lib.hid (HD_32.out.pure hb33)
    clear hb33
    go_wp2_with fail
    have hop := open_go w33 (HL.out.pure HB33.out) p b nmB4.1 HD_33.out hlb (named_all nm_one.2.2.2.2.2.2.2) exCfg (by decide) (by decide) (by decide)
    rw [nm_open2] at hop
    refine hop.mono ?_
    intro e w34 h34
    obtain ⟨g2, F2, rfl, hf34⟩ := Fresh.init HL.out.pow HB33.out HD_33.out hpp hbb HLK.out h34
    have HF_34 := Lib.hid hf34
    have HB34 := Lib.hid hf34.below
    clear hf34 h34 hop
    go_wp2_with fail
    refine (lg_next _ F2 g2 p _ HF_34.out.env.lg (by rw [HF_34.out.env.ok.len]; exact HF_34.out.env.ok.pos) (by rw [HF_34.out.env.ok.len]; have := HF_34.out.env.ok.few; omega)).mono ?_
    rintro e w35 ⟨rfl, hb35⟩
    have HB35 := Lib.hid (HB34.out.trans (hb35.mono HB34.out.size))
    have HF_35 := Lib.hid (HF_34.out.pure hb35)
    rw [nm_one.2.1]
    clear hb35
    go_wp2_with fail
    refine (show Calls Tryz.prog 26 #[.pointer (some ⟨p, 0, none⟩), .slice (some ⟨w35.heap.size, 0, none⟩) 3 3, .slice (some ⟨w35.heap.size + 1, 0, none⟩) 3 3] _ fun e w' => e = .returned (.bool true) ∧ Below _ _ w' from
      sizes_any ((w35.alloc (.cells #[.string exS0, .string ⟨#[110, 48, 48, 48, 48, 48, 48, 48, 48, 48, 49]⟩, .string ⟨#[115, 48, 48, 48, 48, 48, 48, 48, 48, 45, 48, 48, 48, 48, 48, 48, 48, 48, 48, 55]⟩] 9)).alloc (.cells #[.int .i64 34, .int .i64 0, .int .i64 132] 3)) p b nmO.1 (HF_35.out.env.dk.pure (box2_belowX w35 _ _)) w35.heap.size (w35.heap.size + 1) 3 3 [exS0.data.toList, nmS, nmL] [34, 0, 132]
        (textsIn_row (t := 9) [exS0, ⟨#[110, 48, 48, 48, 48, 48, 48, 48, 48, 48, 49]⟩, ⟨#[115, 48, 48, 48, 48, 48, 48, 48, 48, 45, 48, 48, 48, 48, 48, 48, 48, 48, 48, 55]⟩] ((Below.heap_alloc _ _ _ (by simp)).trans (heap_alloc_new _ _))) (numsIn_row (t := 3) [34, 0, 132] (alloc_topX _ _ (by simp))) nm_two.2.2.1 nm_two.2.2.2 3 3 rfl rfl).mono ?_
    rintro e w36 ⟨rfl, hb36⟩
    have HF_36 := Lib.hid (HF_35.out.pure ((box2_belowX w35 _ _).trans (hb36.mono (by simp; omega))))
    have HB36 := Lib.hid HF_36.out.below
    clear hb36
    go_wp2_with fail
    have happ := lg_append w36 F2 g2 p b nmO.1 nmR1.1.2 HF_36.out.env ⟨#[115, 101, 99, 111, 110, 100]⟩ (by decide)
    rw [show lgAppend nmO.1 nmR1.1.2 (⟨#[115, 101, 99, 111, 110, 100]⟩ : ByteArray).data.toList = nmR2 from rfl] at happ
    refine happ.mono ?_
    rintro e w37 ⟨rfl, hl37⟩
    rw [if_pos nm_three.1, nm_three.1, nm_one.2.1]
    obtain ⟨F37, hf37⟩ := HF_36.out.left hl37
    have HF_37 := Lib.hid hf37
    have HB37 := Lib.hid hf37.below
    clear hl37 hf37 happ
    have hnl := HF_37.out.env.ok.name_len
    go_wp2_with fail
    refine (lg_sync w37 HF_37.out.env.pow F37 g2 p b _ _ HF_37.out.env.lg HF_37.out.env.dk HF_37.out.env.ok.pos (by have := HF_37.out.env.ok.few; omega) (by omega)).mono ?_
    rintro e w38 ⟨rfl, hd38, hf38⟩
    have hd38 : IsDk w38 p b nmS1.1 := hd38
    rw [show (lgSync nmR2.1.1 nmR2.1.2).2 = 0 from nm_three.2.1]
    have HD_38 := Lib.hid hd38
    have HB38 := Lib.hid (HB37.out.trans (hf38.below (B := w.heap.size) HB37.out.size (fun k hk e => by rcases e with rfl | rfl <;> omega)))
    clear hd38 hf38 hnl
    go_wp2_with fail
    refine (dk_copy w38 p b nmS1.1 HD_38.out).mono ?_
    intro e w39 h39
    obtain ⟨q1, c1, rfl, hq1, hql1, hcl1, hb39⟩ := copy_far h39
    have HC1_39 := Lib.hid hq1
    have HB39 := Lib.hid (HB38.out.trans (hb39.mono HB38.out.size))
    have hlt1 : q1 < w39.heap.size ∧ c1 < w39.heap.size := ⟨hq1.lt, hq1.own.lt⟩
    have hs39 := hb39.size
    have hbs1 := HB38.out.size
    have hlb1 : ¬ LibB q1 ∧ ¬ LibB c1 := ⟨fun e => by have := HL.out.lt q1 e; omega, fun e => by have := HL.out.lt c1 e; omega⟩
    have HD_39 := Lib.hid (HD_38.out.pure hb39)
    clear hb39 h39 hq1
    go_wp2_with fail
    refine (dk_copy w39 p b nmS1.1 HD_39.out).mono ?_
    intro e w40 h40
    obtain ⟨q2, c2, rfl, hq2, hql2, hcl2, hb40⟩ := copy_far h40
    have HC2_40 := Lib.hid hq2
    have HB40 := Lib.hid (HB39.out.trans (hb40.mono HB39.out.size))
    have hlt2 : q2 < w40.heap.size ∧ c2 < w40.heap.size := ⟨hq2.lt, hq2.own.lt⟩
    have hs40 := hb40.size
    have hbs2 := HB39.out.size
    have hlb2 : ¬ LibB q2 ∧ ¬ LibB c2 := ⟨fun e => by have := HL.out.lt q2 e; omega, fun e => by have := HL.out.lt c2 e; omega⟩
    have HD_40 := Lib.hid (HD_39.out.pure hb40)
    have HC1_40 := Lib.hid (HC1_39.out.pure hb40)
    clear hb40 h40 hq2
    go_wp2_with fail
    refine (dk_copy w40 p b nmS1.1 HD_40.out).mono ?_
    intro e w41 h41
    obtain ⟨q3, c3, rfl, hq3, hql3, hcl3, hb41⟩ := copy_far h41
    have HC3_41 := Lib.hid hq3
    have HB41 := Lib.hid (HB40.out.trans (hb41.mono HB40.out.size))
    have hlt3 : q3 < w41.heap.size ∧ c3 < w41.heap.size := ⟨hq3.lt, hq3.own.lt⟩
    have hs41 := hb41.size
    have hbs3 := HB40.out.size
    have hlb3 : ¬ LibB q3 ∧ ¬ LibB c3 := ⟨fun e => by have := HL.out.lt q3 e; omega, fun e => by have := HL.out.lt c3 e; omega⟩
    have HD_41 := Lib.hid (HD_40.out.pure hb41)
    have HC1_41 := Lib.hid (HC1_40.out.pure hb41)
    have HC2_41 := Lib.hid (HC2_40.out.pure hb41)
    clear hb41 h41 hq3
    go_wp2_with fail
    refine (dk_trim w41 q1 c1 _ HC1_41.out ⟨#[115, 48, 48, 48, 48, 48, 48, 48, 48, 45, 48, 48, 48, 48, 48, 48, 48, 48, 48, 55]⟩ 60 (by decide)).mono ?_
    rintro e w42 ⟨rfl, hd42, hf42⟩
    have hd42 : IsDk w42 q1 c1 nmW.1 := hd42
    have HC1_42 := Lib.hid hd42
    have HB42 := Lib.hid (HB41.out.trans (hf42.below (B := w.heap.size) HB41.out.size (fun k hk e => by rcases e with rfl | rfl <;> omega)))
    have HC2_42 := Lib.hid (HC2_41.out.kept hf42 (fun e => by rcases e with e | e <;> omega) (fun e => by rcases e with e | e <;> omega))
    have HC3_42 := Lib.hid (HC3_41.out.kept hf42 (fun e => by rcases e with e | e <;> omega) (fun e => by rcases e with e | e <;> omega))
    clear hd42 hf42
    rw [show (dkTrim nmS1.1 (⟨#[115, 48, 48, 48, 48, 48, 48, 48, 48, 45, 48, 48, 48, 48, 48, 48, 48, 48, 48, 55]⟩ : ByteArray).data.toList 60).2 = 0 from nm_three.2.2.1]
    go_wp2_with fail
    refine (dk_delete w42 q2 c2 _ HC2_42.out ⟨#[115, 48, 48, 48, 48, 48, 48, 48, 48, 45, 48, 48, 48, 48, 48, 48, 48, 48, 48, 55]⟩ (by decide)).mono ?_
    rintro e w43 ⟨rfl, hd43, hf43⟩
    have hd43 : IsDk w43 q2 c2 nmU.1 := hd43
    have HC2_43 := Lib.hid hd43
    have HB43 := Lib.hid (HB42.out.trans (hf43.below (B := w.heap.size) HB42.out.size (fun k hk e => by rcases e with rfl | rfl <;> omega)))
    have HC1_43 := Lib.hid (HC1_42.out.kept hf43 (fun e => by rcases e with e | e <;> omega) (fun e => by rcases e with e | e <;> omega))
    have HC3_43 := Lib.hid (HC3_42.out.kept hf43 (fun e => by rcases e with e | e <;> omega) (fun e => by rcases e with e | e <;> omega))
    clear hd43 hf43
    rw [show (dkDelete nmS1.1 (⟨#[115, 48, 48, 48, 48, 48, 48, 48, 48, 45, 48, 48, 48, 48, 48, 48, 48, 48, 48, 55]⟩ : ByteArray).data.toList).2 = 0 from nm_three.2.2.2.1]
    go_wp2_with fail
    refine (dk_trim w43 q3 c3 _ HC3_43.out ⟨#[115, 48, 48, 48, 48, 48, 48, 48, 48, 45, 48, 48, 48, 48, 48, 48, 48, 48, 48, 55]⟩ 16 (by decide)).mono ?_
    rintro e w44 ⟨rfl, hd44, hf44⟩
    have hd44 : IsDk w44 q3 c3 nmV.1 := hd44
    have HC3_44 := Lib.hid hd44
    have HB44 := Lib.hid (HB43.out.trans (hf44.below (B := w.heap.size) HB43.out.size (fun k hk e => by rcases e with rfl | rfl <;> omega)))
    have HC1_44 := Lib.hid (HC1_43.out.kept hf44 (fun e => by rcases e with e | e <;> omega) (fun e => by rcases e with e | e <;> omega))
    have HC2_44 := Lib.hid (HC2_43.out.kept hf44 (fun e => by rcases e with e | e <;> omega) (fun e => by rcases e with e | e <;> omega))
    clear hd44 hf44
    rw [show (dkTrim nmS1.1 (⟨#[115, 48, 48, 48, 48, 48, 48, 48, 48, 45, 48, 48, 48, 48, 48, 48, 48, 48, 48, 55]⟩ : ByteArray).data.toList 16).2 = 0 from nm_three.2.2.2.2.1]
    go_wp2_with fail
    refine (config_any _ ).mono ?_
    rintro e w45 ⟨rfl, hb45⟩
    have HB45 := Lib.hid (HB44.out.trans (hb45.mono HB44.out.size))
    have HC1_45 := Lib.hid (HC1_44.out.pure hb45)
    have HC2_45 := Lib.hid (HC2_44.out.pure hb45)
    have HC3_45 := Lib.hid (HC3_44.out.pure hb45)
    clear hb45
    go_wp2_with fail
    have hop := open_go w45 (HL.out.pure HB45.out) q1 c1 nmW.1 HC1_45.out hlb1 (named_all nm_three.2.2.2.2.2.1) exCfg (by decide) (by decide) (by decide)
    rw [lgOpen_eq] at hop
    have hno := opened_none nm_wrong.2.1 nm_wrong.1 hop
    clear hop
    refine hno.mono ?_
    rintro e w46 ⟨rfl, hf46⟩
    have HB46 := Lib.hid (HB45.out.trans (hf46.below (B := w.heap.size) HB45.out.size (fun k hk e => by rcases e with rfl | rfl <;> omega)))
    have HC2_46 := Lib.hid (HC2_45.out.kept hf46 (fun e => by rcases e with e | e <;> omega) (fun e => by rcases e with e | e <;> omega))
    have HC3_46 := Lib.hid (HC3_45.out.kept hf46 (fun e => by rcases e with e | e <;> omega) (fun e => by rcases e with e | e <;> omega))
    clear hf46 hno
    go_wp2_with fail
    refine (config_any _ ).mono ?_
    rintro e w47 ⟨rfl, hb47⟩
    have HB47 := Lib.hid (HB46.out.trans (hb47.mono HB46.out.size))
    have HC2_47 := Lib.hid (HC2_46.out.pure hb47)
    have HC3_47 := Lib.hid (HC3_46.out.pure hb47)
    clear hb47
    go_wp2_with fail
    have hop := open_go w47 (HL.out.pure HB47.out) q2 c2 nmU.1 HC2_47.out hlb2 (named_all nm_three.2.2.2.2.2.2.1) exCfg (by decide) (by decide) (by decide)
    rw [lgOpen_eq] at hop
    have hno := opened_none nm_wrong.2.2.2.1 nm_wrong.2.2.1 hop
    clear hop
    refine hno.mono ?_
    rintro e w48 ⟨rfl, hf48⟩
    have HB48 := Lib.hid (HB47.out.trans (hf48.below (B := w.heap.size) HB47.out.size (fun k hk e => by rcases e with rfl | rfl <;> omega)))
    have HC3_48 := Lib.hid (HC3_47.out.kept hf48 (fun e => by rcases e with e | e <;> omega) (fun e => by rcases e with e | e <;> omega))
    clear hf48 hno
    go_wp2_with fail
    refine (config_any _ ).mono ?_
    rintro e w49 ⟨rfl, hb49⟩
    have HB49 := Lib.hid (HB48.out.trans (hb49.mono HB48.out.size))
    have HC3_49 := Lib.hid (HC3_48.out.pure hb49)
    clear hb49
    go_wp2_with fail
    have hop := open_go w49 (HL.out.pure HB49.out) q3 c3 nmV.1 HC3_49.out hlb3 (named_all nm_three.2.2.2.2.2.2.2) exCfg (by decide) (by decide) (by decide)
    rw [lgOpen_eq] at hop
    have hno := opened_none nm_wrong.2.2.2.2.2 nm_wrong.2.2.2.2.1 hop
    clear hop
    refine hno.mono ?_
    rintro e w50 ⟨rfl, hf50⟩
    have HB50 := Lib.hid (HB49.out.trans (hf50.below (B := w.heap.size) HB49.out.size (fun k hk e => by rcases e with rfl | rfl <;> omega)))
    clear hf50 hno
    go_wp2_with fail
    refine (dk_new w50 4000 (by decide)).mono ?_
    rintro e w51 ⟨hb51, h1⟩
    rw [show dkLoad 4000 [] = (some nmE0, 0) from rfl] at h1
    obtain ⟨p4, b4, hpg4, hbg4, rfl, hd4⟩ := h1
    have HB51 := Lib.hid (HB50.out.trans (hb51.mono HB50.out.size))
    have HD_51 := Lib.hid hd4
    have hpp4 : w.heap.size ≤ p4 := Nat.le_trans HB50.out.size hpg4
    have hbb4 : w.heap.size ≤ b4 := Nat.le_trans HB50.out.size hbg4
    clear hb51 hd4 hpg4 hbg4
    go_wp2_with fail
    refine (config_any _ ).mono ?_
    rintro e w52 ⟨rfl, hb52⟩
    have HB52 := Lib.hid (HB51.out.trans (hb52.mono HB51.out.size))
    have HD_52 := Lib.hid (HD_51.out.pure hb52)
    clear hb52
    go_wp2_with fail
    have hgo := init_go w52 (below_pow HB52.out HL.out.pow) p4 b4 nmE0 HD_52.out 1048575 (by decide) exCfg (by decide) (by decide) (by decide) rfl rfl
    rw [show ((1048575 : Nat) : Int) = 1048575 from rfl, nm_init3] at hgo
    refine hgo.mono ?_
    intro e w53 h53
    obtain ⟨g4, F4, rfl, hf53⟩ := Fresh.init HL.out.pow HB52.out HD_52.out hpp4 hbb4 (newL_ok (c := exCfg) (by decide) (q := 1048575) (by decide)) h53
    have HF_53 := Lib.hid hf53
    have HB53 := Lib.hid hf53.below
    clear hf53 h53 hgo
    go_wp2_with fail
    have happ := lg_append w53 F4 g4 p4 b4 nmE1 (newL exCfg 1048575) HF_53.out.env ⟨#[120]⟩ (by decide)
    rw [show lgAppend nmE1 (newL exCfg 1048575) (⟨#[120]⟩ : ByteArray).data.toList = nmR3 from rfl] at happ
    refine happ.mono ?_
    rintro e w54 ⟨rfl, hl54⟩
    rw [if_pos nm_end.1, nm_end.1]
    obtain ⟨F54, hf54⟩ := HF_53.out.left hl54
    have HF_54 := Lib.hid hf54
    have HB54 := Lib.hid hf54.below
    clear hl54 hf54 happ
    go_wp2_with fail
    have happ := lg_append w54 F54 g4 p4 b4 nmR3.1.1 nmR3.1.2 HF_54.out.env ⟨#[120]⟩ (by decide)
    rw [app_top nmR3.1.1 nmR3.1.2 (p := (⟨#[120]⟩ : ByteArray).data.toList) (by decide) (by rw [nm_end.2]; exact Nat.le_refl _)] at happ
    refine happ.mono ?_
    rintro e w55 ⟨rfl, hl55⟩
    rw [show (if ((nmR3.1.1, nmR3.1.2), (40 : Int)).2 = 0 then (nmR3.1.2.next : Int) else 0) = 0 from rfl]
    obtain ⟨F55, hf55⟩ := HF_54.out.left hl55
    have HB55 := Lib.hid hf55.below
    clear hl55 hf55 happ
    go_wp2_with fail
    refine (lg_append_nil _ ⟨#[120]⟩).mono ?_
    rintro e w56 ⟨rfl, hb56⟩
    have HB56 := Lib.hid (HB55.out.trans (hb56.mono HB55.out.size))
    clear hb56
    go_wp2_with fail
    refine (lg_read_nil _ 0).mono ?_
    rintro e w57 ⟨rfl, hb57⟩
    have HB57 := Lib.hid (HB56.out.trans (hb57.mono HB56.out.size))
    clear hb57
    go_wp2_with fail
    refine (lg_range_nil _ 0 0).mono ?_
    rintro e w58 ⟨rfl, hb58⟩
    have HB58 := Lib.hid (HB57.out.trans (hb58.mono HB57.out.size))
    clear hb58
    go_wp2_with fail
    refine (config_any _ ).mono ?_
    rintro e w59 ⟨rfl, hb59⟩
    have HB59 := Lib.hid (HB58.out.trans (hb59.mono HB58.out.size))
    clear hb59
    go_wp2_with fail
    refine (init_nil _ exCfg).mono ?_
    rintro e w60 ⟨rfl, hb60⟩
    have HB60 := Lib.hid (HB59.out.trans (hb60.mono HB59.out.size))
    clear hb60
    go_wp2_with fail
    refine (config_any _ ).mono ?_
    rintro e w61 ⟨rfl, hb61⟩
    have HB61 := Lib.hid (HB60.out.trans (hb61.mono HB60.out.size))
    clear hb61
    go_wp2_with fail
    refine (open_nil _ exCfg).mono ?_
    rintro e w62 ⟨rfl, hb62⟩
    have HB62 := Lib.hid (HB61.out.trans (hb62.mono HB61.out.size))
    clear hb62
    go_wp2_with fail
    refine (lg_sync_nil _ ).mono ?_
    rintro e w63 ⟨rfl, hb63⟩
    have HB63 := Lib.hid (HB62.out.trans (hb63.mono HB62.out.size))
    clear hb63
    go_wp2_with fail
    refine (lg_first_nil _ ).mono ?_
    rintro e w64 ⟨rfl, hb64⟩
    have HB64 := Lib.hid (HB63.out.trans (hb64.mono HB63.out.size))
    clear hb64
    go_wp2_with fail
    refine (lg_next_nil _ ).mono ?_
    rintro e w65 ⟨rfl, hb65⟩
    have HB65 := Lib.hid (HB64.out.trans (hb65.mono HB64.out.size))
    clear hb65
    go_wp2
    go_ret
    exact ⟨rfl, HB65.out⟩
  -- nm:end
end Go.Proofs.YtcdjckdbcffgdaaGreatDoor
