/- rotate: the steps, the index, the stores. -/
import Derived.Test.YtcdjckdbcffgdaaGreatDoorMAy
import Derived.Test.YtcdjckdbcffgdaaGreatDoorMAu
import Derived.Deep.RegionLawGrows
import Derived.Deep.QuietTactic
import Derived.BigQuiet
namespace Go.Proofs.YtcdjckdbcffgdaaGreatDoor
open Go.RowKit

theorem Tryz.infoIxP : (Tryz.prog.info? 95).map (fun i => (i.zero, i.size, i.bytes)) = some (some (.pointer none), 1, 8) := by kernel_rfl
theorem row_of {w : World} {base n size : Nat} {e : TypeId} {v : Value} {xs : List Value} (h : w.ownsRow base e size v n xs) (h0 : 0 < n) : ∃ rb c, v = .slice (some ⟨rb, 0, none⟩) n c := by
  obtain ⟨_, ⟨_, h1⟩ | ⟨rb, c, _, e1, _⟩⟩ := h
  · omega
  · exact ⟨rb, c, e1⟩
/-- The row of rotate's first steps: the log's own Sync, and begin's. -/
theorem rot_row {wr W w8 : World} {p b base k0 gg cap : Nat} {lb : Steps} {K1 Kb : Nat → Prop} {g1 : DkSt → DkSt × Int} {f1 : FnV} (h1 : DkStep p b wr K1 f1 g1) (hk1 : ∀ k, K1 k → k < wr.heap.size) (hBW : Below wr.heap.size wr W)
    (hlit : W.ownsRow base 88 1 (.slice (some ⟨k0, 0, none⟩) 1 1) 1 [funcV f1]) (hk0 : wr.heap.size ≤ k0) (hdb : lb.Do p b W Kb) (hKb : ∀ k, Kb k → wr.heap.size ≤ k ∧ k ≠ k0) (hlb : lb.length = 3)
    (hg : W.grownBy w8 (some k0)) (hown : w8.ownsRow base 88 1 (.slice (some ⟨gg, 0, none⟩) (1 + 3) cap) (1 + 3) ([funcV f1] ++ lb.cells)) (hat : some k0 = some gg ∨ gg = W.heap.size) :
    ∃ (ss : Steps) (K : Nat → Prop), RowOk p b w8 base (.slice (some ⟨gg, 0, none⟩) 4 cap) ss K ∧ ss.length = 4 ∧ ss.acts = g1 :: lb.acts ∧ Below wr.heap.size wr w8 := by
  have hs := hBW.size
  have R1 : RowOk p b W base (.slice (some ⟨k0, 0, none⟩) 1 1) [(f1, g1)] K1 := ⟨hlit, fun y hy => by rw [List.mem_singleton.1 hy]; exact h1.pure hBW, fun k hk => ⟨Nat.lt_of_lt_of_le (hk1 k hk) hs, (h1.lt k hk).2⟩, fun k hk e => by have e2 : k0 = k := Option.some.inj e; have := hk1 k hk; omega⟩
  have hlt : ∀ k, Kb k → k < W.heap.size ∧ k ≠ p ∧ k ≠ b := fun k hk => by
    cases lb with
    | nil => simp at hlb
    | cons y r => exact (hdb y (by simp)).lt k hk
  have R2 := R1.more (l := lb) hdb (fun k hk => ⟨hlt k hk, fun e => (hKb k hk).2 (Option.some.inj e).symm⟩) hg (n := 1 + 3) hown (by rw [hlb]; rfl) hat
  exact ⟨_, _, R2, by rw [List.length_append, hlb]; rfl, by rw [Steps.acts_append]; rfl, hBW.grown hg hs (fun j e => by have e2 : k0 = j := Option.some.inj e; omega)⟩

set_option maxRecDepth 100000 in
set_option maxHeartbeats 8000000 in
theorem rot_mid (w wr : World) (F : Nat → Prop) (g p b : Nat) (st : DkSt) (l : LgSt) (h0 : LgEnv w F g p b st l) (hbw : Below w.heap.size w wr) (hmay : mayB l.gen (l.segs ++ [(l.gen, (l.next : Int))]) = true) (r : ByteArray) (hr : r.data.toList = segHead l.next) (lB mB eB cE : Nat)
    (hlB : w.heap.size ≤ lB) (hmB : w.heap.size ≤ mB) (heB : w.heap.size ≤ eB) (q0 : wr.cell? ⟨lB, 0, none⟩ = some (.pointer (some ⟨g, 0, none⟩))) (m0 : wr.cell? ⟨mB, 0, none⟩ = some (.int .i64 l.gen)) (m1 : wr.cell? ⟨mB, 1, none⟩ = some (.slice (some ⟨eB, 0, none⟩) (l.segs.length + 1) cE))
    (hsv : SegsAt wr (.slice (some ⟨eB, 0, none⟩) (l.segs.length + 1) cE) (l.segs ++ [(l.gen, (l.next : Int))])) (hel : eB < wr.heap.size) {u0 u2 u5 u7 u8 u9 u10 u11 u12 u13 u14 u15 u16 u17 u18 u19 u20 u21 u22 u23 u24 u25 u26 u27 u28 u29 u30 u31 u32 u33 u34 u35 u36 u37 u38 u39 u40 u41 u42 u43 u44 u45 u46 u47 u48 u49 u50 u51 u52 u53 u54 u55 u56 u57 u58 u59 u60 u61 u62 u63 u64 u65 u66 u67 u68 u69 u70 u71 u72 u73 u74 u75 u76 u77 u78 u79 u80 u81 u82 u83 u84 u85 u86 u87 u88 u89 u90 u91 u92 : Value} :
    Code.wp Tryz.prog (dropS 6 (Tryz.f56.body.getD .skip)) (bodyPost Tryz.prog Tryz.f56 fun e w' => e = .returned (.int .i64 (lgRotate st l).2) ∧ LgLeft w F g p b (lgRotate st l).1 w') { tmps := (List.toArray (u0 :: .pointer (some ⟨lB, 0, none⟩) :: u2 :: .int .i64 (l.next : Int) :: .string r :: u5 :: .pointer (some ⟨mB, 0, none⟩) :: u7 :: u8 :: u9 :: u10 :: u11 :: u12 :: u13 :: u14 :: u15 :: u16 :: u17 :: u18 :: u19 :: u20 :: u21 :: u22 :: u23 :: u24 :: u25 :: u26 :: u27 :: u28 :: u29 :: u30 :: u31 :: u32 :: u33 :: u34 :: u35 :: u36 :: u37 :: u38 :: u39 :: u40 :: u41 :: u42 :: u43 :: u44 :: u45 :: u46 :: u47 :: u48 :: u49 :: u50 :: u51 :: u52 :: u53 :: u54 :: u55 :: u56 :: u57 :: u58 :: u59 :: u60 :: u61 :: u62 :: u63 :: u64 :: u65 :: u66 :: u67 :: u68 :: u69 :: u70 :: u71 :: u72 :: u73 :: u74 :: u75 :: u76 :: u77 :: u78 :: u79 :: u80 :: u81 :: u82 :: u83 :: u84 :: u85 :: u86 :: u87 :: u88 :: u89 :: u90 :: u91 :: u92 :: [])), defers := [] } wr := by
  have hROT : lgRotate st l = if (runL (rotL l) st).2 ≠ 0 then (((runL (rotL l) st).1, l), (runL (rotL l) st).2) else (((runL (rotL l) st).1, l.turn), 0) := by
    unfold lgRotate; rw [hmay, if_neg (by decide)]; rfl
  have HROT := Lib.hid hROT
  have henv0 := h0.pure hbw
  have hws := hbw.size
  have hpw := h0.dk.lt
  have hbbw := h0.dk.own.lt
  have hPW : PW < w.heap.size := pow_lt h0.pow
  have HSY := Lib.hid (sync_step henv0)
  have HSYL := Lib.hid (fun (k : Nat) (hk : F k ∨ k = PW) => show k < wr.heap.size from by rcases hk with h | h; exact henv0.lt k h; omega)
  obtain ⟨_, _, _, _, hlc, _⟩ := h0.lg
  have hgw := hlc.gl
  obtain ⟨_, _, _, _, hlc2, _⟩ := henv0.lg
  obtain ⟨g0, _, _, _, g4, _, _⟩ := hlc2.cs
  have hgl := hlc2.gl
  have hrs : r.size ≤ 140737488355328 := by have h1 := size_of_list hr; rw [segHead_length] at h1; omega
  obtain ⟨G, hG, hG2⟩ : ∃ G : Nat, l.gen = (G : Int) ∧ G ≤ 99999999 := by obtain ⟨h1, h2, _⟩ := mayB_all h0.ok.may; exact ⟨l.gen.toNat, by omega, by omega⟩
  have htop := h0.ok.top
  have HNL := Lib.hid (show (segName l.gen (l.next : Int)).length = 20 from by rw [hG]; exact segName_len G l.next hG2 htop)
  have HNAME := Lib.hid (fun W (hb : Below wr.heap.size wr W) => name_any W (below_pow hb henv0.pow) l.gen (l.next : Int))
  have HBEG := Lib.hid (fun W (hb : Below wr.heap.size wr W) (nm : ByteArray) (hnm : nm.data.toList = segName l.gen (l.next : Int)) => begin_any W p nm r (by have h1 := size_of_list hnm; rw [HNL.out] at h1; unfold maxLen; omega) hrs (by have := hb.size; omega) b (by have := hb.size; omega))
  have hlq := ltOfCell q0
  have hlm := ltOfCell m0
  have H0 := Lib.hid h0
  have HW := Lib.hid hbw
  have HR := Lib.hid hr
  have HSV := Lib.hid hsv
  have HMAY := Lib.hid hmay
  have HENV := Lib.hid henv0
  have HMM := Lib.hid (And.intro m0 m1)
  obtain ⟨i0, hi, hz0, hz1, hz2⟩ := info_parts Tryz.infoStep
  have HI := Lib.hid hi
  have HZ0 := Lib.hid hz0
  have HZ1 := Lib.hid hz1
  have HZ2 := Lib.hid hz2
  have hmf : ∀ (fn : Fn) (first cap : Array Value) (w : World), (Instr.makeFunc fn first cap).run Tryz.prog w = .ok (.func fn first cap) w := fun _ _ _ _ => rfl
  clear hROT h0 hbw hmay hr hsv henv0 m0 m1 hG hlc hlc2 hi hz0 hz1 hz2
  conv => arg 2; whnf
  go_upto_region 8 with fail
  go_cut [7] (fun v wx => ∃ (ss : Steps) (K : Nat → Prop), RowOk p b wx wr.heap.size v ss K ∧ ss.length = 4 ∧ ss.acts = (fun st => lgSync st l) :: beginF (segName l.gen (l.next : Int)) (segHead l.next) ∧ Below wr.heap.size wr wx)
  case first =>
    go_region_held3 (fun w' => w'.cell? ⟨lB, 0, none⟩ = some (.pointer (some ⟨g, 0, none⟩)) ∧ w'.cell? ⟨g, 0, none⟩ = some (.pointer (some ⟨p, 0, none⟩)) ∧ w'.cell? ⟨g, 4, none⟩ = some (.int .i64 l.gen)) (first | exact ⟨q0, g0, g4⟩ | exact ⟨x0, x1, x2⟩ | exact ⟨y0, y1, y2⟩ | exact ⟨z0, z1, z2⟩ | go_keep) (first
      | (go_at_call 42; refine (HNAME.out _ (by repeat (first | exact Below.refl _ _ | refine Below.drew ?_ | refine Below.alloc ?_ (by first | (simp; done) | (simp; omega) | omega) _))).mono ?_; rintro e wN ⟨⟨nm, hnm, rfl⟩, hbN⟩; have HN := Lib.hid hnm; have HTN := Lib.hid hbN; have BN := Below.trans (show Below wr.heap.size wr _ from (by repeat (first | exact Below.refl _ _ | refine Below.drew ?_ | refine Below.alloc ?_ (by first | (simp; done) | (simp; omega) | omega) _))) (hbN.mono (by first | (simp; done) | (simp; omega) | omega)); have x0 := (BN.cell (p := ⟨lB, 0, none⟩) hlq).trans q0; have x1 := (BN.cell (p := ⟨g, 0, none⟩) hgl).trans g0; have x2 := (BN.cell (p := ⟨g, 4, none⟩) hgl).trans g4; have sN := hbN.size; (try simp at sN); have HBN := Lib.hid BN; clear hnm hbN BN)
      | (go_at_call 43; refine (HBEG.out _ (by repeat (first | exact HBN.out | refine Below.drew ?_ | refine Below.alloc ?_ (by first | (simp; done) | (simp; omega) | omega) _)) _ HN.out).mono ?_; rintro e wB ⟨vb, lb, Kb, rfl, ⟨gb, cb, rfl, hcb⟩, hlb, hab, hdb, hKb, hbB⟩; rw [hlb]; have HCB := Lib.hid hcb; have HLB := Lib.hid hlb; have HAB := Lib.hid hab; have HDB := Lib.hid hdb; have HKB := Lib.hid hKb; have HTB := Lib.hid hbB; have BB := Below.trans (show Below wr.heap.size wr _ from (by repeat (first | exact HBN.out | refine Below.drew ?_ | refine Below.alloc ?_ (by first | (simp; done) | (simp; omega) | omega) _))) (hbB.mono (by first | (simp; done) | (simp; omega) | omega)); have y0 := (BB.cell (p := ⟨lB, 0, none⟩) hlq).trans q0; have y1 := (BB.cell (p := ⟨g, 0, none⟩) hgl).trans g0; have y2 := (BB.cell (p := ⟨g, 4, none⟩) hgl).trans g4; have sB := hbB.size; (try simp at sB); have hlc : lb.cells.length = 3 * 1 := (by unfold Steps.cells; rw [List.length_map, hlb]); have hone : ∀ u ∈ lb.cells, u.oneCell' = true := (by intro u hu; obtain ⟨y, _, rfl⟩ := List.mem_map.1 hu; rfl); have HLC := Lib.hid (And.intro hlc hone); have HBB := Lib.hid BB; clear hcb hlb hab hdb hKb hbB BB hlc hone)
      | (refine step_append_lies _ (by rfl) _ _ _ (by rfl) wr.heap.size 88 i0 _ 1 8 Tryz.underlying86 HI.out HZ0.out HZ1.out HZ2.out rfl (by omega) _ 1 [.func (.func 27) #[.pointer (some ⟨g, 0, none⟩)] #[]] (by rfl) (by first | exact World.ownsRow_lit _ _ 1 (by first | (simp; done) | (simp; omega) | omega) (by decide) rfl | exact (Fr.pure (S := fun _ => False) HTB.out).ownsRow (World.ownsRow_lit _ _ 1 (by first | (simp; done) | (simp; omega) | omega) (by decide) rfl) (fun _ _ h => h) | exact (Fr.pure (S := fun _ => False) HTB.out).ownsRow ((Fr.pure (S := fun _ => False) HTN.out).ownsRow (World.ownsRow_lit _ _ 1 (by first | (simp; done) | (simp; omega) | omega) (by decide) rfl) (fun _ _ h => h)) (fun _ _ h => h)) ⟨gb, 0, none⟩ 3 cb lb.cells (by rfl) HLC.out.1 (fun j u hu => by first | exact HCB.out j u hu | exact cell_allocX _ (HCB.out j u hu)) HLC.out.2 (by omega) (by unfold maxLen; omega) (by omega) (by first | (simp; done) | (simp; omega) | omega) _ rfl ?_; intro gg cap w8 hown8 hgrow8 hat8 hlt8; have HROW := Lib.hid (rot_row (lb := lb) HSY.out HSYL.out (by repeat (first | exact HBB.out | refine Below.drew ?_ | refine Below.alloc ?_ (by first | (simp; done) | (simp; omega) | omega) _)) (by first | exact World.ownsRow_lit _ _ 1 (by first | (simp; done) | (simp; omega) | omega) (by decide) rfl | exact (Fr.pure (S := fun _ => False) HTB.out).ownsRow (World.ownsRow_lit _ _ 1 (by first | (simp; done) | (simp; omega) | omega) (by decide) rfl) (fun _ _ h => h) | exact (Fr.pure (S := fun _ => False) HTB.out).ownsRow ((Fr.pure (S := fun _ => False) HTN.out).ownsRow (World.ownsRow_lit _ _ 1 (by first | (simp; done) | (simp; omega) | omega) (by decide) rfl) (fun _ _ h => h)) (fun _ _ h => h)) (by first | (simp; done) | (simp; omega) | omega) (by first | exact HDB.out | exact HDB.out.pure ((Below.refl _ _).alloc (Nat.le_refl _) _)) (fun k hk => by have h9 := HKB.out k hk; (try simp at h9); first | omega | (simp; omega)) HLB.out hgrow8 hown8 hat8); have F8 := grown_fr hgrow8; have z0 := F8.cellAt (by first | exact y0 | exact cell_allocX _ y0) (fun e => by have e9 := Option.some.inj e; (try simp at e9); omega); have z1 := F8.cellAt (by first | exact y1 | exact cell_allocX _ y1) (fun e => by have e9 := Option.some.inj e; (try simp at e9); omega); have z2 := F8.cellAt (by first | exact y2 | exact cell_allocX _ y2) (fun e => by have e9 := Option.some.inj e; (try simp at e9); omega); clear hown8 hgrow8 hat8 F8))
    all_goals (go_wp2_with fail; go_meet; obtain ⟨ss, K, h1, h2, h3, h4⟩ := HROW.out; exact ⟨ss, K, h1, h2, by rw [h3, HAB.out, HN.out, HR.out], h4⟩)
  case rest =>
    obtain ⟨ss, K, hrow, hsl, hac, hbx⟩ := hcut
    have hsx := hbx.size
    obtain ⟨a0, n0, p0, rfl⟩ := own_shape hrow.own
    have HOWN := Lib.hid (fun (y : Nat) (e : (Value.slice a0 n0 p0).ownBlock = some y) => show wr.heap.size ≤ y ∧ y < wc.heap.size from ⟨own_ge hrow.own e, own_below hrow.own e⟩)
    have HBX := Lib.hid hbx
    have HRW := Lib.hid hrow
    have HAC := Lib.hid hac
    have HSL := Lib.hid hsl
    have hba := (Below.refl wc.heap.size wc).alloc (Nat.le_refl _) (.cells #[.func (.func 107) #[] #[.pointer (some ⟨lB, 0, none⟩), .pointer (some ⟨mB, 0, none⟩)]] 88)
    have HBA := Lib.hid (hbx.trans (hba.mono hsx))
    have HO := Lib.hid (World.ownsRow.alloc (by have h := hrow.own; unfold OwnSteps at h; rw [hsl] at h; exact h : wc.ownsRow wr.heap.size 88 1 (.slice a0 n0 p0) 4 ss.cells) (.cells #[.func (.func 107) #[] #[.pointer (some ⟨lB, 0, none⟩), .pointer (some ⟨mB, 0, none⟩)]] 88))
    have hKS : ∀ k, (k = lB ∨ k = g ∨ k = mB ∨ k = eB) → k < wr.heap.size ∧ k ≠ p ∧ k ≠ b := by
      have hf := H0.out.far
      obtain ⟨_, _, _, _, h5, h6, _⟩ := H0.out.lg
      have h7 := hf g (h6 g h5.sg)
      rintro k (h | h | h | h)
      · omega
      · rw [h]; exact ⟨hgl, h7.1, h7.2.1⟩
      · omega
      · omega
    have hst := rot_step (wc.alloc (.cells #[.func (.func 107) #[] #[.pointer (some ⟨lB, 0, none⟩), .pointer (some ⟨mB, 0, none⟩)]] 88)) lB mB g p b l.gen (.slice (some ⟨eB, 0, none⟩) (l.segs.length + 1) cE) (l.segs ++ [(l.gen, (l.next : Int))])
      ((HBA.out.cell (p := ⟨lB, 0, none⟩) hlq).trans q0) ((HBA.out.cell (p := ⟨g, 0, none⟩) hgl).trans g0) ((HBA.out.cell (p := ⟨mB, 0, none⟩) hlm).trans HMM.out.1) ((HBA.out.cell (p := ⟨mB, 1, none⟩) hlm).trans HMM.out.2) (HSV.out.pure HBA.out) (by have := mayB_all HMAY.out; omega)
      (fun k => k = lB ∨ k = g ∨ k = mB ∨ k = eB) (fun k hk => ⟨by have := (hKS k hk).1; simp; omega, (hKS k hk).2⟩) (.inl rfl) (.inr (.inl rfl)) (.inr (.inr (.inl rfl))) (fun k hk => .inr (.inr (.inr (Option.some.inj hk).symm)))
    have HST := Lib.hid hst
    have HKS := Lib.hid hKS
    have HBB := Lib.hid hba
    clear hrow hac hsl hbx hba hst hKS
    go_wp2_with (first
      | (refine wpList_append_lies _ rfl _ _ 86 rfl wr.heap.size 88 i0 _ 1 8 Tryz.underlying86 HI.out HZ0.out HZ1.out HZ2.out rfl (by omega) _ 4 ss.cells rfl HO.out ⟨wc.heap.size, 0, none⟩ 1 1 [.func (.func 107) #[] #[.pointer (some ⟨lB, 0, none⟩), .pointer (some ⟨mB, 0, none⟩)]] rfl rfl (cells_new rfl rfl) (by simp [Value.oneCell']) (by omega) (by unfold maxLen; omega) (by omega) (by simp; omega) (wc.heap.size + 1) (by simp) ?_; intro gh ch w10 hown10 hgrow10 hat10 hlt10))
    have hz10 := hgrow10.size
    simp at hz10
    have hR10 := (HRW.out.pure HBB.out).more (l := [((107, #[], #[.pointer (some ⟨lB, 0, none⟩), .pointer (some ⟨mB, 0, none⟩)]), fun st => dkSwap st l.gen (l.segs ++ [(l.gen, (l.next : Int))]))]) (K2 := fun k => k = lB ∨ k = g ∨ k = mB ∨ k = eB) (fun y hy => by rw [List.mem_singleton.1 hy]; exact HST.out) (fun k hk => ⟨HST.out.lt k hk, fun e => by have h1 := HOWN.out k e; have h2 := (HKS.out k hk).1; omega⟩) hgrow10 (n := 4 + 1) hown10 (by rw [HSL.out]; rfl) (hat10.imp id fun e => by simp; omega)
    have HR10 := Lib.hid hR10
    have hfx := HBA.out.grown hgrow10 (by simp; omega) (fun j e => (HOWN.out j e).1)
    have HFX := Lib.hid hfx
    have hlen : (ss ++ [(((107, #[], #[.pointer (some ⟨lB, 0, none⟩), .pointer (some ⟨mB, 0, none⟩)]) : FnV), fun st => dkSwap st l.gen (l.segs ++ [(l.gen, (l.next : Int))]))]).length = 5 := by rw [List.length_append, HSL.out]; rfl
    have HLEN := Lib.hid hlen
    have hacts : Steps.acts (ss ++ [(((107, #[], #[.pointer (some ⟨lB, 0, none⟩), .pointer (some ⟨mB, 0, none⟩)]) : FnV), fun st => dkSwap st l.gen (l.segs ++ [(l.gen, (l.next : Int))]))]) = rotL l := by rw [Steps.acts_append, HAC.out]; rfl
    have HACTS := Lib.hid hacts
    have HD10 := Lib.hid (HENV.out.dk.pure hfx)
    clear hR10 hfx hlen hacts hown10 hgrow10 hat10 hlt10 g4
    go_wp2_with fail
    refine (all_steps w10 p b wr.heap.size st _ _ (by rw [HLEN.out]; omega) (by rw [HLEN.out]; omega) HR10.out.own _ HR10.out.acts HD10.out (by omega) (by omega)).mono ?_
    rintro e w1 ⟨rfl, hd1, hf1⟩
    rw [HACTS.out] at hd1 ⊢
    obtain ⟨RR, hRR⟩ : ∃ RR, RR = runL (rotL l) st := ⟨_, rfl⟩
    rw [← hRR] at hd1 ⊢
    have HRES0 := HROT.out
    rw [← hRR] at HRES0
    have HRES1 := Lib.hid HRES0
    have hfr : DFr p b w w1 := (Fr.pure (HW.out.trans (HFX.out.mono hws))).trans hf1
    have henv := H0.out.disk hd1 hfr
    have hsz1 := hf1.size
    have hKp := HKS.out
    have q0 := hf1.cellAt ((HFX.out.cell (p := ⟨lB, 0, none⟩) hlq).trans q0) (by omega)
    have m0 := hf1.cellAt ((HFX.out.cell (p := ⟨mB, 0, none⟩) hlm).trans HMM.out.1) (by omega)
    have m1 := hf1.cellAt ((HFX.out.cell (p := ⟨mB, 1, none⟩) hlm).trans HMM.out.2) (by omega)
    have hsv := (HSV.out.pure HFX.out).kept hf1 (fun k hk => by have e9 := Option.some.inj hk; simp at e9; omega)
    have h0 := H0.out
    have hmay := HMAY.out
    have hr := HR.out
    have hel1 : eB < w1.heap.size := by omega
    clear HRES0 hRR hd1 hf1 hKp g0 hel
    have hel := hel1
    by_cases hz : RR.2 = 0
    · have HRES := Lib.hid (HRES1.out.trans (if_neg (by simpa using hz)))
      rw [hz]
      clear hz
      obtain ⟨sv, iv, xs, S, hc, hSF, hsF, hFl⟩ := henv.lg
      have hpos := henv.ok.pos
      have hlen := henv.ok.len
      have hfew := henv.ok.few
      have hxl := hc.len
      obtain ⟨rb, cI, rfl⟩ := row_of hc.row (by omega)
      obtain ⟨c0, c1, c2, c3, c4, c5, c6⟩ := hc.cs
      have hgl := hc.gl
      obtain ⟨ev, hev0, hev1, hev2, hev3⟩ := ev_nat henv.ok.cfg
      rw [← hev0] at c2
      have HEV0 := Lib.hid hev0
      have HEV3 := Lib.hid hev3
      have hrs2 : r.size ≤ 1048576 := by have h1 := size_of_list hr; rw [segHead_length] at h1; omega
      have htop := henv.ok.top
      have HR := Lib.hid hr
      have HC := Lib.hid hc
      have HENV := Lib.hid henv
      have H0 := Lib.hid h0
      have HFR := Lib.hid hfr
      have HSV := Lib.hid hsv
      have HMAY := Lib.hid hmay
      have HSF := Lib.hid (And.intro hSF (And.intro hsF hFl))
      have HLL := Lib.hid (And.intro hlen hxl)
      have hil : l.ix.length ≤ 64 := by omega
      have hi0 : 0 < l.ix.length := by omega
      have HQ := Lib.hid (And.intro q0 (And.intro m0 (And.intro m1 c6)))
      have hgw : g < w.heap.size := by have := H0.out.lg; obtain ⟨_, _, _, _, h9, _⟩ := this; exact h9.gl
      clear henv h0 hfr hsv hmay hSF hsF hFl hc hr hev0 hev3 c0 c1 c3 c4 c5 hlen hxl
      go_wp2_with fail
      refine (build_any r ev w1 hrs2 hev1 hev2).mono ?_
      rintro e w2 ⟨hb2, h | ⟨_, x, xv, hx, hxv, hix, rfl⟩⟩
      · rw [HR.out, sgScan_head htop] at h; exact absurd rfl h.1
      rw [HR.out, sgScan_head htop] at hix
      have q2 := (hb2.cell (p := ⟨lB, 0, none⟩) (ltOfCell q0)).trans q0
      have n0 := (hb2.cell (p := ⟨mB, 0, none⟩) (ltOfCell m0)).trans m0
      have n1 := (hb2.cell (p := ⟨mB, 1, none⟩) (ltOfCell m1)).trans m1
      have d6 := (hb2.cell (p := ⟨g, 6, none⟩) hgl).trans c6
      have hG2 := (hb2.block _ hgl).trans HC.out.cell
      have HG2 := Lib.hid hG2
      have HB2 := Lib.hid hb2
      have HX := Lib.hid hx
      have HXV := Lib.hid hxv
      have HIX := Lib.hid hix
      have hlq := ltOfCell q2
      have hlm := ltOfCell n0
      have hlg := ltOfCell d6
      have HROW := Lib.hid ((Fr.pure (S := fun _ => False) hb2).ownsRow HC.out.row (fun _ _ h => h))
      obtain ⟨i0, hi, hz0, hz1, hz2⟩ := info_parts Tryz.infoIxP
      have HI := Lib.hid hi
      have HZ0 := Lib.hid hz0
      have HZ1 := Lib.hid hz1
      have HZ2 := Lib.hid hz2
      have hrbS := HC.out.siv rb rfl
      have hrbw : rb < w.heap.size := H0.out.lt rb (HSF.out.1 rb hrbS)
      have hgrb : g ≠ rb := by
        intro e
        obtain ⟨cur, hcur⟩ := row_block HC.out.row (show _ = some rb from rfl)
        exact two_types HC.out.cell (e ▸ hcur) (by decide) rfl
      have hgq : g ≠ lB := by omega
      have hgm : g ≠ mB := by omega
      clear hi hz0 hz1 hz2 hG2 hb2 hx hxv hix q0 m0 m1 c2 c6
      go_wp2_with fail
      refine wp_region_z (S := (fun w' : World => w'.cell? ⟨lB, 0, none⟩ = some (.pointer (some ⟨g, 0, none⟩)) ∧ w'.cell? ⟨mB, 0, none⟩ = some (.int .i64 l.gen) ∧ w'.cell? ⟨mB, 1, none⟩ = some (.slice (some ⟨eB, 0, none⟩) (l.segs.length + 1) cE) ∧ w'.cell? ⟨g, 6, none⟩ = some (.slice (some ⟨rb, 0, none⟩) l.ix.length cI))) 15 (by kernel_rfl) ?_
      have hHeld : (fun w' : World => w'.cell? ⟨lB, 0, none⟩ = some (.pointer (some ⟨g, 0, none⟩)) ∧ w'.cell? ⟨mB, 0, none⟩ = some (.int .i64 l.gen) ∧ w'.cell? ⟨mB, 1, none⟩ = some (.slice (some ⟨eB, 0, none⟩) (l.segs.length + 1) cE) ∧ w'.cell? ⟨g, 6, none⟩ = some (.slice (some ⟨rb, 0, none⟩) l.ix.length cI)) w2.drew := ⟨q2, n0, n1, d6⟩
      refine wpAnyZ_take (i := 0) (oi := _) (v := ?_) (by simp only [List.getElem?_toArray, List.getElem?_cons_zero]; rfl) (by kernel_rfl) (by kernel_rfl) (by kernel_rfl) (by kernel_rfl) (by exact fun _ _ _ h => h) (Or.inl ⟨by rfl, ?_⟩) (by assumption) ?_
      rotate_left
      · (intro w hSw; (try dsimp only at hSw); go_simp; try with_reducible rfl)
      simp only [Act.put, List.setIfInBounds_toArray, List.set_cons_zero, List.set_cons_succ]
      refine wpAnyZ_take (i := 1) (oi := _) (v := ?_) (by simp only [List.getElem?_toArray, List.getElem?_cons_succ, List.getElem?_cons_zero]; rfl) (by kernel_rfl) (by kernel_rfl) (by kernel_rfl) (by kernel_rfl) (by exact fun _ _ _ h => h) (Or.inl ⟨by rfl, ?_⟩) (by assumption) ?_
      rotate_left
      · (intro w hSw; (try dsimp only at hSw); go_simp; try with_reducible rfl)
      simp only [Act.put, List.setIfInBounds_toArray, List.set_cons_zero, List.set_cons_succ]
      refine wpAnyZ_take (i := 2) (oi := _) (v := ?_) (by simp only [List.getElem?_toArray, List.getElem?_cons_succ, List.getElem?_cons_zero]; rfl) (by kernel_rfl) (by kernel_rfl) (by kernel_rfl) (by kernel_rfl) (by exact fun _ _ _ h => h) (Or.inl ⟨by rfl, ?_⟩) (by assumption) ?_
      rotate_left
      · (intro w hSw; (try dsimp only at hSw); go_simp; try with_reducible rfl)
      simp only [Act.put, List.setIfInBounds_toArray, List.set_cons_zero, List.set_cons_succ]
      refine wpAnyZ_take (i := 3) (oi := _) (v := ?_) (by simp only [List.getElem?_toArray, List.getElem?_cons_succ, List.getElem?_cons_zero]; rfl) (by kernel_rfl) (by kernel_rfl) (by kernel_rfl) (by kernel_rfl) (by exact fun _ _ _ h => h) (Or.inl ⟨by rfl, ?_⟩) (by assumption) ?_
      rotate_left
      · (intro w hSw; (try dsimp only at hSw); go_simp; try with_reducible rfl)
      simp only [Act.put, List.setIfInBounds_toArray, List.set_cons_zero, List.set_cons_succ]
      refine wpAnyZ_take (i := 4) (oi := _) (v := ?_) (by simp only [List.getElem?_toArray, List.getElem?_cons_succ, List.getElem?_cons_zero]; rfl) (by kernel_rfl) (by kernel_rfl) (by kernel_rfl) (by kernel_rfl) (by exact fun _ _ _ h => h) (Or.inl ⟨by rfl, ?_⟩) (by assumption) ?_
      rotate_left
      · (intro w hSw; (try dsimp only at hSw); go_simp; try with_reducible rfl)
      simp only [Act.put, List.setIfInBounds_toArray, List.set_cons_zero, List.set_cons_succ]
      refine wpAnyZ_take (i := 5) (oi := _) (v := ?_) (by simp only [List.getElem?_toArray, List.getElem?_cons_succ, List.getElem?_cons_zero]; rfl) (by kernel_rfl) (by kernel_rfl) (by kernel_rfl) (by kernel_rfl) (by exact fun _ _ _ h => h) (Or.inl ⟨by rfl, ?_⟩) (by assumption) ?_
      rotate_left
      · (intro w hSw; (try dsimp only at hSw); go_simp; try with_reducible rfl)
      simp only [Act.put, List.setIfInBounds_toArray, List.set_cons_zero, List.set_cons_succ]
      refine wpAnyZ_take (i := 6) (oi := _) (v := ?_) (by simp only [List.getElem?_toArray, List.getElem?_cons_succ, List.getElem?_cons_zero]; rfl) (by kernel_rfl) (by kernel_rfl) (by kernel_rfl) (by kernel_rfl) (by exact fun _ _ _ h => h) (Or.inl ⟨by rfl, ?_⟩) (by assumption) ?_
      rotate_left
      · (intro w hSw; (try dsimp only at hSw); go_simp; try with_reducible rfl)
      simp only [Act.put, List.setIfInBounds_toArray, List.set_cons_zero, List.set_cons_succ]
      refine wpAnyZ_take (i := 7) (oi := _) (v := ?_) (by simp only [List.getElem?_toArray, List.getElem?_cons_succ, List.getElem?_cons_zero]; rfl) (by kernel_rfl) (by kernel_rfl) (by kernel_rfl) (by kernel_rfl) (by exact fun _ _ _ h => h) (Or.inl ⟨by rfl, ?_⟩) (by assumption) ?_
      rotate_left
      · (intro w hSw; (try dsimp only at hSw); go_simp; try with_reducible rfl)
      simp only [Act.put, List.setIfInBounds_toArray, List.set_cons_zero, List.set_cons_succ]
      refine wpAnyZ_one (i := 8) (o := _) (by simp only [List.getElem?_toArray, List.getElem?_cons_succ, List.getElem?_cons_zero]; rfl) (by kernel_rfl) (fun K hK => ?_)
      go_simp
      refine hK.out _ _ (fun _ => ⟨cell_allocX _ q2, cell_allocX _ n0, cell_allocX _ n1, cell_allocX _ d6⟩) ?_
      clear hK K
      (try simp only [Act.put, List.setIfInBounds_toArray, List.set_cons_zero, List.set_cons_succ])
      refine wpAnyZ_one (i := 9) (o := _) (by simp only [List.getElem?_toArray, List.getElem?_cons_succ, List.getElem?_cons_zero]; rfl) (by kernel_rfl) (fun K hK => ?_)
      refine step_append_lies _ (by rfl) _ _ _ (by rfl) 0 95 i0 _ 1 8 Tryz.underlying98 HI.out HZ0.out HZ1.out HZ2.out rfl (by omega) _ l.ix.length (xs.map ixPtr) (by rfl) (by first | exact World.ownsRow.alloc HROW.out _ | exact World.ownsRow.alloc (World.ownsRow.drew HROW.out) _) ⟨w2.heap.size, 0, none⟩ 1 1 [.pointer (some ⟨x, 0, none⟩)] (by rfl) (by rfl) (fun j u hu => by first | (rw [World.cell?_drew]; exact cells_new rfl rfl j u hu) | exact cells_new rfl rfl j u hu) (by simp [Value.oneCell']) (by omega) (by unfold maxLen; omega) (by omega) (Nat.zero_le _) (w2.heap.size + 1) (by simp) ?_
      intro gg cap w3 hown3 hgrow3 hat3 hlt3
      have F3 := grown_fr hgrow3
      have hG3 := F3.heapAt (((Fr.refl (fun k => (Value.slice (some ⟨rb, 0, none⟩) l.ix.length cI).ownBlock = some k) w2).alloc (.cells #[.pointer (some ⟨x, 0, none⟩)] 95)).heapAt HG2.out (fun e => hgrb (Option.some.inj e).symm)) (fun e => hgrb (Option.some.inj e).symm)
      have HG3 := Lib.hid hG3
      have e0 := F3.cellAt (show World.cell? _ ⟨lB, 0, none⟩ = _ from cell_allocX _ q2) (fun e => by have e2 := Option.some.inj e; simp at e2; omega)
      have e1 := F3.cellAt (show World.cell? _ ⟨mB, 0, none⟩ = _ from cell_allocX _ n0) (fun e => by have e2 := Option.some.inj e; simp at e2; omega)
      have e2 := F3.cellAt (show World.cell? _ ⟨mB, 1, none⟩ = _ from cell_allocX _ n1) (fun e => by have e2 := Option.some.inj e; simp at e2; omega)
      have e3 : w3.cell? ⟨g, 6, none⟩ = some (.slice (some ⟨rb, 0, none⟩) l.ix.length cI) := (cell_of_row _ _ _ _ _ _ hG3).trans rfl
      have e4 : w3.cell? ⟨g, 4, none⟩ = some (.int .i64 l.gen) := (cell_of_row _ _ _ _ _ _ hG3).trans rfl
      have e5 : w3.cell? ⟨g, 5, none⟩ = some sv := (cell_of_row _ _ _ _ _ _ hG3).trans rfl
      have y4 : ∀ j : Nat, w3.frozen? ⟨g, j, none⟩ = false := fun j => frozen_of_row _ _ _ _ _ hG3
      have HO3 := Lib.hid hown3
      have HGR3 := Lib.hid hgrow3
      have HAT3 := Lib.hid hat3
      clear hG3 hown3 hgrow3 hat3 F3 hHeld
      refine hK.out _ _ (fun _ => ⟨e0, e1, e2, e3⟩) ?_
      clear hK K
      (try simp only [Act.put, List.setIfInBounds_toArray, List.set_cons_zero, List.set_cons_succ])
      have hHeld : (fun w' : World => w'.cell? ⟨lB, 0, none⟩ = some (.pointer (some ⟨g, 0, none⟩)) ∧ w'.cell? ⟨mB, 0, none⟩ = some (.int .i64 l.gen) ∧ w'.cell? ⟨mB, 1, none⟩ = some (.slice (some ⟨eB, 0, none⟩) (l.segs.length + 1) cE) ∧ w'.cell? ⟨g, 6, none⟩ = some (.slice (some ⟨rb, 0, none⟩) l.ix.length cI)) w3 := ⟨e0, e1, e2, e3⟩
      refine wpAnyZ_take (i := 10) (oi := _) (v := ?_) (by simp only [List.getElem?_toArray, List.getElem?_cons_succ, List.getElem?_cons_zero]; rfl) (by kernel_rfl) (by kernel_rfl) (by kernel_rfl) (by kernel_rfl) (by exact fun _ _ _ h => h) (Or.inl ⟨by rfl, ?_⟩) (by assumption) ?_
      rotate_left
      · (intro w hSw; (try dsimp only at hSw); go_simp; try with_reducible rfl)
      simp only [Act.put, List.setIfInBounds_toArray, List.set_cons_zero, List.set_cons_succ]
      refine wpAnyZ_take (i := 11) (oi := _) (v := ?_) (by simp only [List.getElem?_toArray, List.getElem?_cons_succ, List.getElem?_cons_zero]; rfl) (by kernel_rfl) (by kernel_rfl) (by kernel_rfl) (by kernel_rfl) (by exact fun _ _ _ h => h) (Or.inl ⟨by rfl, ?_⟩) (by assumption) ?_
      rotate_left
      · (intro w hSw; (try dsimp only at hSw); go_simp; try with_reducible rfl)
      simp only [Act.put, List.setIfInBounds_toArray, List.set_cons_zero, List.set_cons_succ]
      refine wpAnyZ_one (i := 12) (o := _) (by simp only [List.getElem?_toArray, List.getElem?_cons_succ, List.getElem?_cons_zero]; rfl) (by kernel_rfl) (fun K hK => ?_)
      go_simp
      clear hHeld
      have hHeld : (fun w' : World => w'.cell? ⟨lB, 0, none⟩ = some (.pointer (some ⟨g, 0, none⟩)) ∧ w'.cell? ⟨mB, 0, none⟩ = some (.int .i64 l.gen) ∧ w'.cell? ⟨mB, 1, none⟩ = some (.slice (some ⟨eB, 0, none⟩) (l.segs.length + 1) cE) ∧ w'.cell? ⟨g, 6, none⟩ = some (.slice (some ⟨rb, 0, none⟩) l.ix.length cI)) ((w3.setCell ⟨g, 4, none⟩ (.int .i64 l.gen)).setCell ⟨g, 5, none⟩ (.slice (some ⟨eB, 0, none⟩) (l.segs.length + 1) cE)) := ⟨by rw [World.cell?_setCell_other _ _ _ _ (by intro e; have e9 := congrArg Addr.block e; simp at e9; omega), World.cell?_setCell_other _ _ _ _ (by intro e; have e9 := congrArg Addr.block e; simp at e9; omega)]; exact e0, by rw [World.cell?_setCell_other _ _ _ _ (by intro e; have e9 := congrArg Addr.block e; simp at e9; omega), World.cell?_setCell_other _ _ _ _ (by intro e; have e9 := congrArg Addr.block e; simp at e9; omega)]; exact e1, by rw [World.cell?_setCell_other _ _ _ _ (by intro e; have e9 := congrArg Addr.block e; simp at e9; omega), World.cell?_setCell_other _ _ _ _ (by intro e; have e9 := congrArg Addr.block e; simp at e9; omega)]; exact e2, by rw [World.cell?_setCell_other _ _ _ _ (by intro e; have e9 := congrArg Addr.off e; simp at e9), World.cell?_setCell_other _ _ _ _ (by intro e; have e9 := congrArg Addr.off e; simp at e9)]; exact e3⟩
      refine hK.out _ _ (fun _ => hHeld) ?_
      clear hK K
      (try simp only [Act.put, List.setIfInBounds_toArray, List.set_cons_zero, List.set_cons_succ])
      have e6 := hHeld.2.2.2
      refine wpAnyZ_one (i := 13) (o := _) (by simp only [List.getElem?_toArray, List.getElem?_cons_succ, List.getElem?_cons_zero]; rfl) (by kernel_rfl) (fun K hK => ?_)
      go_simp
      refine hK.out _ _ (fun _ => hHeld) ?_
      clear hK K
      (try simp only [Act.put, List.setIfInBounds_toArray, List.set_cons_zero, List.set_cons_succ])
      refine wpAnyZ_one (i := 14) (o := _) (by simp only [List.getElem?_toArray, List.getElem?_cons_succ, List.getElem?_cons_zero]; rfl) (by kernel_rfl) (fun K hK => ?_)
      go_simp
      refine hK.out _ _ (fun _ => hHeld) ?_
      clear hK K
      (try simp only [Act.put, List.setIfInBounds_toArray, List.set_cons_zero, List.set_cons_succ])
      refine wpAnyZ_one (i := 15) (o := _) (by simp only [List.getElem?_toArray, List.getElem?_cons_succ, List.getElem?_cons_zero]; rfl) (by kernel_rfl) (fun K hK => ?_)
      go_simp
      refine hK.out _ _ (fun h => absurd rfl h) ?_
      clear hK K
      (try simp only [Act.put, List.setIfInBounds_toArray, List.set_cons_zero, List.set_cons_succ])
      refine wpAnyZ_done (by kernel_rfl) ?_ _
      go_wp2
      go_ret
      rw [HRES.out]
      exact ⟨rfl, rot_post H0.out HENV.out HFR.out HC.out HSF.out.1 HMAY.out HEV3.out heB hel HSV.out HB2.out HX.out HXV.out HIX.out (by first | exact (Below.refl _ _).alloc (Nat.le_refl _) _ | exact (Below.refl _ _).drew.alloc (Nat.le_refl _) _) (by simp) HO3.out HGR3.out (HAT3.out.imp (fun e => e) (fun e => e)) hlt3 HG3.out⟩
    · have HRES := Lib.hid (HRES1.out.trans (if_pos (by simpa using hz)))
      have hne : (RR.2 == 0) = false := by simpa using hz
      have hnn : (RR.2 != 0) = true := by simpa using hz
      have HENV1 := Lib.hid henv
      have HFR1 := Lib.hid hfr
      clear hz henv hfr h0 hmay hr hsv q0 m0 m1
      go_wp2
      go_ret
      rw [HRES.out]
      exact ⟨rfl, F, HENV1.out, HFR1.out.mono fun k _ h => .inr h, fun k hk => .inl hk⟩
end Go.Proofs.YtcdjckdbcffgdaaGreatDoor
