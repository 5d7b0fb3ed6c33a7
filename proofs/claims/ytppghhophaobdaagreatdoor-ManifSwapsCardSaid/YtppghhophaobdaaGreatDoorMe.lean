/- ManifSwaps: the two rounds. -/
import Derived.Test.YtppghhophaobdaaGreatDoorMb
import Derived.Test.YtppghhophaobdaaGreatDoorMc
import Derived.Test.YtppghhophaobdaaGreatDoorMa
import Derived.Deep.DeepCutAuto
import Derived.Deep.CutBlock
import Derived.Deep.RegionHeld3
namespace Go.Proofs.YtppghhophaobdaaGreatDoor
open Go.RowKit Go.Maps Go.Sort

/-- Between two rounds: both disks are one state, and the box m holds a manifest that came in. -/
def SwLoop (w : World) (p b x : Nat) (H : Int) (tv : Value) (i : Value) (W : World) : Prop :=
  ∃ (k g c : Nat) (st : DkSt) (G : Int) (am : Option Addr) (cm : Nat) (l : Segs), i = .int .i64 k ∧ k ≤ 2 ∧ SwAt w W p b x g c st st G (.slice am l.length cm) H tv ∧ SegsAt w (.slice am l.length cm) l ∧ l.length ≤ 100

/-- Behind the swaps. -/
def SwMid (w : World) (p b x : Nat) (st : DkSt) (G : Int) (sv : Value) (H : Int) (tv : Value) (s : Value) (W : World) : Prop :=
  s = .bool false ∧ (∃ g c, SwAt w W p b x g c st st G sv H tv)

theorem not_beq_self (d : Bool) : ((!d) == d) = false := by cases d <;> rfl
theorem SwAt.drew {w wr : World} {p b x g c : Nat} {sd sr : DkSt} {G H : Int} {sv tv : Value} (h : SwAt w wr p b x g c sd sr G sv H tv) : SwAt w wr.drew p b x g c sd sr G sv H tv := h.pure (Below.refl _ _).drew
theorem loadF_len (st : DkSt) : (loadF st).2.1.length ≤ 64 := by
  unfold loadF readF
  split
  · simp
  split
  · simp
  split
  · cases h : parseMan ((dkRead st fileN).1.take ((dkRead st fileN).1.length - 4)) with
    | none => simp
    | some r =>
      obtain ⟨g, l⟩ := r
      obtain ⟨_, _, _, h4, _⟩ := mayB_all (make_parse h).1
      exact h4
  · simp
theorem SwAt.far {S : Nat → Prop} {N : Nat} {w wr w' : World} {p b x g c : Nat} {sd sr : DkSt} {G H : Int} {sv tv : Value} (h : SwAt w wr p b x g c sd sr G sv H tv) (hf : Fr S wr w') (hS : ∀ k, S k → N ≤ k) (h1 : p < N) (h2 : b < N) (h3 : x < N) (h4 : g < N) (h5 : w.heap.size + 2 ≤ N) : SwAt w w' p b x g c sd sr G sv H tv :=
  ⟨h.dk.kept hf (fun k => by have := hS _ k; omega) (fun k => by have := hS _ k; omega), h.rf.kept hf (fun k => by have := hS _ k; omega) (fun k => by have := hS _ k; omega), hf.heapAt h.bm (fun k => by have := hS _ k; omega), hf.heapAt h.bn (fun k => by have := hS _ k; omega), h.fp, h.fb, h.fx, h.fg, h.px, h.pg, h.bx, h.bg, h.below.trans (hf.below h.below.size (fun k hk e => by have := hS _ e; omega))⟩
theorem SwAt.kept {S : Nat → Prop} {w wr w' : World} {p b x g c : Nat} {sd sr : DkSt} {G H : Int} {sv tv : Value} (h : SwAt w wr p b x g c sd sr G sv H tv) (hf : Fr S wr w') (h1 : ¬ S p) (h2 : ¬ S b) (h3 : ¬ S x) (h4 : ¬ S g) (hS : ∀ k, S k → w.heap.size + 2 ≤ k) : SwAt w w' p b x g c sd sr G sv H tv :=
  ⟨h.dk.kept hf h1 h2, h.rf.kept hf h3 h4, hf.heapAt h.bm (fun k => by have := hS _ k; omega), hf.heapAt h.bn (fun k => by have := hS _ k; omega), h.fp, h.fb, h.fx, h.fg, h.px, h.pg, h.bx, h.bg, h.below.trans (hf.below h.below.size (fun k hk e => by have := hS _ e; omega))⟩
theorem SwAt.rfTo2 {w wr w' : World} {p b x g c : Nat} {sd sr sr' : DkSt} {G H : Int} {sv tv : Value} (h : SwAt w wr p b x g c sd sr G sv H tv) (hr : RfTo x g wr sr' w') : ∃ g' c', SwAt w w' p b x g' c' sd sr' G sv H tv ∧ (g' = g ∨ wr.heap.size ≤ g') ∧ Fr (fun k => k = x ∨ k = g) wr w' := by
  obtain ⟨g', c', h1, h2, hf⟩ := hr
  have q1 := h.fx
  have q2 := h.fg
  have q3 := h.below.size
  have q4 := h.dk.lt
  have q5 := h.dk.own.lt
  have q6 := lt_of_block h.bn
  have hfg : w.heap.size + 2 ≤ g' := by rcases h2 with e | e <;> omega
  have hpg : p ≠ g' := by rcases h2 with e | e; rw [e]; exact h.pg; omega
  have hbg : b ≠ g' := by rcases h2 with e | e; rw [e]; exact h.bg; omega
  exact ⟨g', c', ⟨h.dk.kept hf (fun e => e.elim h.px h.pg) (fun e => e.elim h.bx h.bg), h1, hf.heapAt h.bm (fun e => by rcases e with e | e <;> omega), hf.heapAt h.bn (fun e => by rcases e with e | e <;> omega), h.fp, h.fb, h.fx, hfg, h.px, hpg, h.bx, hbg, h.below.trans (hf.below h.below.size (fun k hk e => by rcases e with e | e <;> omega))⟩, h2, hf⟩
/-- A manifest's box. -/
structure ManBox (w : World) (xa : Nat) (g : Int) (v : Value) (t : TypeId) : Prop where
  at_ : w.heap[xa]? = some (.cells #[.int .i64 g, v] t (0, 0))
theorem ManBox.lt {w : World} {xa : Nat} {g : Int} {v : Value} {t : TypeId} (h : ManBox w xa g v t) : xa < w.heap.size := lt_of_block h.at_
theorem ManBox.c0 {w : World} {xa : Nat} {g : Int} {v : Value} {t : TypeId} (h : ManBox w xa g v t) : w.cell? ⟨xa, 0, none⟩ = some (.int .i64 g) := (cell_of_row _ _ 0 _ _ _ h.at_).trans rfl
theorem ManBox.c1 {w : World} {xa : Nat} {g : Int} {v : Value} {t : TypeId} (h : ManBox w xa g v t) : w.cell? ⟨xa, 1, none⟩ = some v := (cell_of_row _ _ 1 _ _ _ h.at_).trans rfl
theorem ManBox.fz {w : World} {xa : Nat} {g : Int} {v : Value} {t : TypeId} (h : ManBox w xa g v t) (j : Nat) : w.frozen? ⟨xa, j, none⟩ = false := frozen_of_row w xa j _ _ h.at_
theorem ManBox.kept {S : Nat → Prop} {w w' : World} {xa : Nat} {g : Int} {v : Value} {t : TypeId} (h : ManBox w xa g v t) (hf : Fr S w w') (hs : ¬ S xa) : ManBox w' xa g v t := ⟨hf.heapAt h.at_ hs⟩
theorem ManBox.pure {w w' : World} {xa : Nat} {g : Int} {v : Value} {t : TypeId} (h : ManBox w xa g v t) (hb : Below w.heap.size w w') : ManBox w' xa g v t := h.kept (Fr.pure (S := fun _ => False) hb) id
theorem ManBox.new {w : World} {xa : Nat} (g : Int) (v : Value) (t : TypeId) (h : xa = w.heap.size) : ManBox (w.alloc (.cells #[.int .i64 g, v] t)) xa g v t := ⟨alloc_at_top _ _ h⟩
theorem ManBox.turn {w : World} {xa : Nat} {g : Int} {v : Value} {t : TypeId} (h : ManBox w xa g v t) (g' : Int) (v' : Value) : ManBox ((w.setCell ⟨xa, 0, none⟩ (.int .i64 g')).setCell ⟨xa, 1, none⟩ v') xa g' v' t :=
  ⟨heap_setCell_same _ _ 1 _ _ v' (heap_setCell_same w _ 0 _ _ (.int .i64 g') h.at_)⟩
theorem box_fr (w : World) (xa : Nat) (g' : Int) (v' : Value) : Fr (fun k => k = xa) w ((w.setCell ⟨xa, 0, none⟩ (.int .i64 g')).setCell ⟨xa, 1, none⟩ v') := ((Fr.refl (fun k => k = xa) w).setCell ⟨xa, 0, none⟩ (fun _ => rfl) _).setCell ⟨xa, 1, none⟩ (fun _ => rfl) _

/-- The condition of a region's walk may be made stronger on the way. -/
theorem held_weaken {P : Program} {md : Region.Mode} {ops : Array Oper} {Q : Exit → Act → World → Prop} {S1 S2 : World → Prop} (h : ∀ w, S2 w → S1 w) :
    ∀ (fuel : Nat) (listed : Array Bool) (a : Act) (w : World), wpAnyH P md ops Q S2 fuel listed a w → wpAnyH P md ops Q S1 fuel listed a w
  | 0, _, _, _, k => k
  | fuel + 1, _, _, _, k => ⟨k.1, fun i hi => wpOp_mono (fun a' w' k' => ⟨h _ k'.1, held_weaken h fuel _ a' w' k'.2⟩) (k.2 i hi)⟩
set_option maxRecDepth 100000 in
set_option maxHeartbeats 8000000 in
theorem sw_loop (w w0 : World) (qp : Pow w) (p b x g c : Nat) (st : DkSt) (G : Int) (am : Option Addr) (cm : Nat) (m : Segs) (H : Int) (an : Option Addr) (cn : Nat) (n : Segs)
    (qst : SwAt w w0 p b x g c st st G (.slice am m.length cm) H (.slice an n.length cn)) (qm : SegsAt w (.slice am m.length cm) m) (hml : m.length ≤ 100) (qn : SegsAt w (.slice an n.length cn) n) (hnl : n.length ≤ 100)
    (ak : Option Addr) (ck : Nat) (ks : List Int) (qk : IntsAt w (.slice ak ks.length ck) ks) (hkl : ks.length ≤ 100) (hkb : ∀ j, (Value.slice ak ks.length ck).ownBlock = some j → j < w.heap.size) {u0 u1 u2 u3 u4 u6 u7 u10 u11 u12 u14 u16 u17 u18 u19 u20 u21 u22 u23 u24 u25 u26 u27 u28 u29 u30 u31 u32 u33 u34 u35 u36 u37 u38 u39 u40 u41 u42 u43 u44 u45 u46 u47 u48 u49 u50 u51 u52 u53 u54 u55 u56 u57 u58 u59 u60 u61 u62 u63 u64 u65 u66 u67 u68 u69 u70 u71 u72 u73 u74 u75 u76 u77 u78 u79 u80 u81 u82 u83 u84 u85 u86 u87 u88 u89 u90 u91 u92 u93 u94 u95 u96 u97 u98 u99 u100 u101 u102 u103 u104 u105 u106 u107 u108 u109 u110 u111 u112 u113 u114 u115 u116 u117 u118 u119 u120 u121 u122 u123 u124 u125 u126 u127 u128 u129 u130 u131 u132 u133 u134 u135 u136 u137 u138 u139 u140 u141 u142 u143 u144 u145 u146 u147 u148 u149 u150 u151 u152 u153 u154 u155 u156 u157 : Value} :
    Code.wp Tryz.prog (dropS 7 (Tryz.f3.body.getD .skip)) (bodyPost Tryz.prog Tryz.f3 fun e w' => e = .returned (.bool true) ∧ Below w.heap.size w w') { tmps := (List.toArray (u0 :: u1 :: u2 :: u3 :: u4 :: .slice ak ks.length ck :: u6 :: u7 :: .pointer (some ⟨w.heap.size, 0, none⟩) :: .pointer (some ⟨w.heap.size + 1, 0, none⟩) :: u10 :: u11 :: u12 :: .pointer (some ⟨p, 0, none⟩) :: u14 :: .pointer (some ⟨x, 0, none⟩) :: u16 :: u17 :: u18 :: u19 :: u20 :: u21 :: u22 :: u23 :: u24 :: u25 :: u26 :: u27 :: u28 :: u29 :: u30 :: u31 :: u32 :: u33 :: u34 :: u35 :: u36 :: u37 :: u38 :: u39 :: u40 :: u41 :: u42 :: u43 :: u44 :: u45 :: u46 :: u47 :: u48 :: u49 :: u50 :: u51 :: u52 :: u53 :: u54 :: u55 :: u56 :: u57 :: u58 :: u59 :: u60 :: u61 :: u62 :: u63 :: u64 :: u65 :: u66 :: u67 :: u68 :: u69 :: u70 :: u71 :: u72 :: u73 :: u74 :: u75 :: u76 :: u77 :: u78 :: u79 :: u80 :: u81 :: u82 :: u83 :: u84 :: u85 :: u86 :: u87 :: u88 :: u89 :: u90 :: u91 :: u92 :: u93 :: u94 :: u95 :: u96 :: u97 :: u98 :: u99 :: u100 :: u101 :: u102 :: u103 :: u104 :: u105 :: u106 :: u107 :: u108 :: u109 :: u110 :: u111 :: u112 :: u113 :: u114 :: u115 :: u116 :: u117 :: u118 :: u119 :: u120 :: u121 :: u122 :: u123 :: u124 :: u125 :: u126 :: u127 :: u128 :: u129 :: u130 :: u131 :: u132 :: u133 :: u134 :: u135 :: u136 :: u137 :: u138 :: u139 :: u140 :: u141 :: u142 :: u143 :: u144 :: u145 :: u146 :: u147 :: u148 :: u149 :: u150 :: u151 :: u152 :: u153 :: u154 :: u155 :: u156 :: u157 :: [])), defers := [] } w0 := by
  have HST := Lib.hid qst
  have HPW := Lib.hid qp
  have HM := Lib.hid qm
  have HN := Lib.hid qn
  have HK := Lib.hid qk
  have HKB := Lib.hid hkb
  clear qst qp qm qn qk hkb
  conv => arg 2; whnf
  go_wp2
  go_loopw [17] (SwLoop w p b x H (.slice an n.length cn)) (fun i _ => 2 - (intOf i).toNat)
  case atStart => exact ⟨0, g, c, st, G, am, cm, m, rfl, by omega, HST.out, HM.out, hml⟩
  case round =>
    obtain ⟨k, g, c, st, G, am, cm, m, rfl, hk2, hst, hm, hml⟩ := hrel
    have HST := Lib.hid hst
    have HM := Lib.hid hm
    clear hst hm
    by_cases hlt : k < 2
    rotate_left
    · have P := Lib.hid (below_pow HST.out.below HPW.out)
      go_wp2_with fail
      refine (awake_any _ P.out).mono ?_
      rintro e w5 ⟨rfl, hb5⟩
      have B5 := Lib.hid (HST.out.below.trans (hb5.mono HST.out.below.size))
      clear hb5
      go_wp2
      go_ret
      exact ⟨rfl, B5.out⟩
    obtain ⟨cc, hcc⟩ : ∃ cc, cc = (dkSwap st G m).2 := ⟨_, rfl⟩
    obtain ⟨st1, hst1⟩ : ∃ st1, st1 = (dkSwap st G m).1 := ⟨_, rfl⟩
    have HCC := Lib.hid (And.intro hcc hst1)
    clear hcc hst1
    go_upto_region 14 with fail
    go_cut [101] (SwMid w p b x st1 G (.slice am m.length cm) H (.slice an n.length cn))
    case first =>
      have a0 := (cell_of_row _ _ 0 _ _ _ HST.out.bm).trans (show _ = some (Value.int .i64 G) from rfl)
      have a1 := (cell_of_row _ _ 1 _ _ _ HST.out.bm).trans (show _ = some (Value.slice am m.length cm) from rfl)
      have HM0 := Lib.hid (HM.out.pure HST.out.below)
      go_wp2_with fail
      refine wp_region_held_drew (S := (fun w' => w'.cell? ⟨w.heap.size, 0, none⟩ = some (.int .i64 G) ∧ w'.cell? ⟨w.heap.size, 1, none⟩ = some (.slice am m.length cm))) (by kernel_rfl) ⟨a0, a1⟩ (fun hHeld => ?_)
      refine wpAnyH_take (i := 0) (oi := _) (v := ?_) (by simp only [List.getElem?_toArray, List.getElem?_cons_zero]; rfl) (by kernel_rfl) (by kernel_rfl) (by kernel_rfl) (by exact fun _ _ _ h => h) (Or.inl ⟨by rfl, ?_⟩) (by assumption) ?_
      rotate_left
      · (intro w hSw; (try dsimp only at hSw); go_simp; try with_reducible rfl)
      simp only [Act.put, List.setIfInBounds_toArray, List.set_cons_zero, List.set_cons_succ]
      refine wpAnyH_take (i := 1) (oi := _) (v := ?_) (by simp only [List.getElem?_toArray, List.getElem?_cons_succ, List.getElem?_cons_zero]; rfl) (by kernel_rfl) (by kernel_rfl) (by kernel_rfl) (by exact fun _ _ _ h => h) (Or.inl ⟨by rfl, ?_⟩) (by assumption) ?_
      rotate_left
      · (intro w hSw; (try dsimp only at hSw); go_simp; try with_reducible rfl)
      simp only [Act.put, List.setIfInBounds_toArray, List.set_cons_zero, List.set_cons_succ]
      refine wpAnyH_take (i := 4) (oi := _) (v := ?_) (by simp only [List.getElem?_toArray, List.getElem?_cons_succ, List.getElem?_cons_zero]; rfl) (by kernel_rfl) (by kernel_rfl) (by kernel_rfl) (by exact fun _ _ _ h => h) (Or.inl ⟨by rfl, ?_⟩) (by assumption) ?_
      rotate_left
      · (intro w hSw; (try dsimp only at hSw); go_simp; try with_reducible rfl)
      simp only [Act.put, List.setIfInBounds_toArray, List.set_cons_zero, List.set_cons_succ]
      refine wpAnyH_take (i := 5) (oi := _) (v := ?_) (by simp only [List.getElem?_toArray, List.getElem?_cons_succ, List.getElem?_cons_zero]; rfl) (by kernel_rfl) (by kernel_rfl) (by kernel_rfl) (by exact fun _ _ _ h => h) (Or.inl ⟨by rfl, ?_⟩) (by assumption) ?_
      rotate_left
      · (intro w hSw; (try dsimp only at hSw); go_simp; try with_reducible rfl)
      simp only [Act.put, List.setIfInBounds_toArray, List.set_cons_zero, List.set_cons_succ]
      refine wpAnyH_ready (rs := [2]) (by kernel_rfl) (by simp) ?_
      refine AllReadyH.cons (o := _) (by simp only [List.getElem?_toArray, List.getElem?_cons_succ, List.getElem?_cons_zero]; rfl) (fun K hK => ?_) AllReadyH.nil
      go_simp
      refine (given_any wr.drew G (.slice am m.length cm) m HM0.out (by omega)).mono ?_
      rintro e w1 ⟨gv, rfl, hgv, hgb, hb1⟩
      have HG1 := Lib.hid hgv.at
      have S1 := Lib.hid (HST.out.drew.pure hb1)
      have HM1 := Lib.hid ((show SegsAt wr.drew (.slice am m.length cm) m from HM0.out).pure hb1)
      have b0 := (cell_of_row _ _ 0 _ _ _ S1.out.bm).trans (show _ = some (Value.int .i64 G) from rfl)
      have b1 := (cell_of_row _ _ 1 _ _ _ S1.out.bm).trans (show _ = some (Value.slice am m.length cm) from rfl)
      clear hgv hgb hb1 hHeld
      refine hK.out _ _ ⟨b0, b1⟩ (fun hHeld => ?_)
      clear hK K
      refine wpAnyH_ready (rs := [3]) (by kernel_rfl) (by simp) ?_
      refine AllReadyH.cons (o := _) (by simp only [List.getElem?_toArray, List.getElem?_cons_succ, List.getElem?_cons_zero]; rfl) (fun K hK => ?_) AllReadyH.nil
      go_simp
      refine (swap_any w1 p b st S1.out.dk G gv m HG1.out (by omega)).mono ?_
      rintro e w2 ⟨rfl, hd2, hf2⟩
      have S2 := Lib.hid (S1.out.dkTo hd2 hf2)
      have HM2 := Lib.hid (HM.out.pure S2.out.below)
      rw [← HCC.out.1]
      have c0 := (cell_of_row _ _ 0 _ _ _ S2.out.bm).trans (show _ = some (Value.int .i64 G) from rfl)
      have c1 := (cell_of_row _ _ 1 _ _ _ S2.out.bm).trans (show _ = some (Value.slice am m.length cm) from rfl)
      clear hd2 hf2 hHeld b0 b1
      refine hK.out _ _ ⟨c0, c1⟩ (fun hHeld => ?_)
      clear hK K
      refine wpAnyH_ready (rs := [6]) (by kernel_rfl) (by simp) ?_
      refine AllReadyH.cons (o := _) (by simp only [List.getElem?_toArray, List.getElem?_cons_succ, List.getElem?_cons_zero]; rfl) (fun K hK => ?_) AllReadyH.nil
      go_simp
      refine (rf_swap w2 x g c st S2.out.rf G (.slice am m.length cm) m HM2.out (by omega)).mono ?_
      rintro e w3 ⟨rfl, hr3⟩
      rw [rfSwap_eq] at hr3 ⊢
      rw [← HCC.out.1]
      have hst3 := S2.out.rfTo hr3
      rw [← HCC.out.2] at hst3
      obtain ⟨g3, c3, hst3⟩ := hst3
      have S3 := Lib.hid hst3
      have d0 := (cell_of_row _ _ 0 _ _ _ S3.out.bm).trans (show _ = some (Value.int .i64 G) from rfl)
      have d1 := (cell_of_row _ _ 1 _ _ _ S3.out.bm).trans (show _ = some (Value.slice am m.length cm) from rfl)
      clear hst3 hr3 hHeld c0 c1
      refine hK.out _ _ ⟨d0, d1⟩ (fun hHeld => ?_)
      clear hK K
      refine wpAnyH_take (i := 7) (oi := _) (v := ?_) (by simp only [List.getElem?_toArray, List.getElem?_cons_succ, List.getElem?_cons_zero]; rfl) (by kernel_rfl) (by kernel_rfl) (by kernel_rfl) (by exact fun _ _ _ h => h) (Or.inl ⟨by rfl, ?_⟩) (by assumption) ?_
      rotate_left
      · (intro w hSw; (try dsimp only at hSw); go_simp; try with_reducible rfl)
      simp only [Act.put, List.setIfInBounds_toArray, List.set_cons_zero, List.set_cons_succ]
      refine wpAnyH_take (i := 8) (oi := _) (v := ?_) (by simp only [List.getElem?_toArray, List.getElem?_cons_succ, List.getElem?_cons_zero]; rfl) (by kernel_rfl) (by kernel_rfl) (by kernel_rfl) (by exact fun _ _ _ h => h) (Or.inl ⟨by rfl, ?_⟩) (by assumption) ?_
      rotate_left
      · (intro w hSw; (try dsimp only at hSw); go_simp; try with_reducible rfl)
      simp only [Act.put, List.setIfInBounds_toArray, List.set_cons_zero, List.set_cons_succ]
      refine held_weaken (S2 := (fun w' => w'.cell? ⟨x, 0, none⟩ = some (Value.slice (some ⟨g3, 0, none⟩) st1.fs.length c3) ∧ w'.cell? ⟨x, 3, none⟩ = some (Value.bool st1.dark) ∧ w'.cell? ⟨w.heap.size, 0, none⟩ = some (.int .i64 G) ∧ w'.cell? ⟨w.heap.size, 1, none⟩ = some (.slice am m.length cm))) (fun _ h => h.2.2) _ _ _ _ ?_
      obtain ⟨dx, _, _, dy⟩ := S3.out.rf.cs
      have hHeld2 : _ ∧ _ ∧ _ ∧ _ := ⟨dx, dy, d0, d1⟩
      clear hHeld
      refine wpAnyH_take (i := 9) (oi := _) (v := ?_) (by simp only [List.getElem?_toArray, List.getElem?_cons_succ, List.getElem?_cons_zero]; rfl) (by kernel_rfl) (by kernel_rfl) (by kernel_rfl) (by exact fun _ _ _ h => h) (Or.inl ⟨by rfl, ?_⟩) (by assumption) ?_
      rotate_left
      · (intro w hSw; (try dsimp only at hSw); go_simp; try with_reducible rfl)
      simp only [Act.put, List.setIfInBounds_toArray, List.set_cons_zero, List.set_cons_succ]
      refine wpAnyH_take (i := 11) (oi := _) (v := ?_) (by simp only [List.getElem?_toArray, List.getElem?_cons_succ, List.getElem?_cons_zero]; rfl) (by kernel_rfl) (by kernel_rfl) (by kernel_rfl) (by exact fun _ _ _ h => h) (Or.inl ⟨by rfl, ?_⟩) (by assumption) ?_
      rotate_left
      · (intro w hSw; (try dsimp only at hSw); go_simp; try with_reducible rfl)
      simp only [Act.put, List.setIfInBounds_toArray, List.set_cons_zero, List.set_cons_succ]
      refine wpAnyH_take (i := 12) (oi := _) (v := ?_) (by simp only [List.getElem?_toArray, List.getElem?_cons_succ, List.getElem?_cons_zero]; rfl) (by kernel_rfl) (by kernel_rfl) (by kernel_rfl) (by exact fun _ _ _ h => h) (Or.inl ⟨by rfl, ?_⟩) (by assumption) ?_
      rotate_left
      · (intro w hSw; (try dsimp only at hSw); go_simp; try with_reducible rfl)
      simp only [Act.put, List.setIfInBounds_toArray, List.set_cons_zero, List.set_cons_succ]
      refine wpAnyH_take (i := 13) (oi := _) (v := ?_) (by simp only [List.getElem?_toArray, List.getElem?_cons_succ, List.getElem?_cons_zero]; rfl) (by kernel_rfl) (by kernel_rfl) (by kernel_rfl) (by exact fun _ _ _ h => h) (Or.inl ⟨by rfl, ?_⟩) (by assumption) ?_
      rotate_left
      · (intro w hSw; (try dsimp only at hSw); go_simp; try with_reducible rfl)
      simp only [Act.put, List.setIfInBounds_toArray, List.set_cons_zero, List.set_cons_succ]
      refine wpAnyH_take (i := 14) (oi := _) (v := ?_) (by simp only [List.getElem?_toArray, List.getElem?_cons_succ, List.getElem?_cons_zero]; rfl) (by kernel_rfl) (by kernel_rfl) (by kernel_rfl) (by exact fun _ _ _ h => h) (Or.inl ⟨by rfl, ?_⟩) (by assumption) ?_
      rotate_left
      · (intro w hSw; (try dsimp only at hSw); go_simp; try with_reducible rfl)
      simp only [Act.put, List.setIfInBounds_toArray, List.set_cons_zero, List.set_cons_succ]
      refine wpAnyH_ready (rs := [10]) (by kernel_rfl) (by simp) ?_
      refine AllReadyH.cons (o := _) (by simp only [List.getElem?_toArray, List.getElem?_cons_succ, List.getElem?_cons_zero]; rfl) (fun K hK => ?_) AllReadyH.nil
      go_simp
      refine (dk_files w3 p b st1 S3.out.dk).mono ?_
      rintro e w4 ⟨v4, rfl, hv4, _, hb4⟩
      have S4 := Lib.hid (S3.out.pure hb4)
      have HV4 := Lib.hid hv4.at
      have HL4 := Lib.hid S4.out.rf.own.at
      have hl4 := S4.out.dk.ok.fs.few
      have e0 := (cell_of_row _ _ 0 _ _ _ S4.out.bm).trans (show _ = some (Value.int .i64 G) from rfl)
      have e1 := (cell_of_row _ _ 1 _ _ _ S4.out.bm).trans (show _ = some (Value.slice am m.length cm) from rfl)
      obtain ⟨ex, _, _, ey⟩ := S4.out.rf.cs
      clear hv4 hb4 hHeld2 d0 d1 dx dy
      refine hK.out _ _ ⟨ex, ey, e0, e1⟩ (fun hHeld => ?_)
      clear hK K
      refine wpAnyH_ready (rs := [15]) (by kernel_rfl) (by simp) ?_
      refine AllReadyH.cons (o := _) (by simp only [List.getElem?_toArray, List.getElem?_cons_succ, List.getElem?_cons_zero]; rfl) (fun K hK => ?_) AllReadyH.nil
      go_simp
      refine (rf_files_same w4 v4 _ st1.fs HV4.out HL4.out (by omega)).mono ?_
      rintro e w5 ⟨rfl, hb5⟩
      have S5 := Lib.hid (S4.out.pure hb5)
      have f0 := (cell_of_row _ _ 0 _ _ _ S5.out.bm).trans (show _ = some (Value.int .i64 G) from rfl)
      have f1 := (cell_of_row _ _ 1 _ _ _ S5.out.bm).trans (show _ = some (Value.slice am m.length cm) from rfl)
      obtain ⟨fx, _, _, fy⟩ := S5.out.rf.cs
      clear hb5 hHeld e0 e1 ex ey
      refine hK.out _ _ ⟨fx, fy, f0, f1⟩ (fun hHeld => ?_)
      clear hK K
      refine wpAnyH_take (i := 16) (oi := _) (v := ?_) (by simp only [List.getElem?_toArray, List.getElem?_cons_succ, List.getElem?_cons_zero]; rfl) (by kernel_rfl) (by kernel_rfl) (by kernel_rfl) (by exact fun _ _ _ h => h) (Or.inl ⟨by rfl, ?_⟩) (by assumption) ?_
      rotate_left
      · (intro w hSw; (try dsimp only at hSw); go_simp; try with_reducible rfl)
      simp only [Act.put, List.setIfInBounds_toArray, List.set_cons_zero, List.set_cons_succ]
      refine wpAnyH_take (i := 17) (oi := _) (v := ?_) (by simp only [List.getElem?_toArray, List.getElem?_cons_succ, List.getElem?_cons_zero]; rfl) (by kernel_rfl) (by kernel_rfl) (by kernel_rfl) (by exact fun _ _ _ h => h) (Or.inl ⟨by rfl, ?_⟩) (by assumption) ?_
      rotate_left
      · (intro w hSw; (try dsimp only at hSw); go_simp; try with_reducible rfl)
      simp only [Act.put, List.setIfInBounds_toArray, List.set_cons_zero, List.set_cons_succ]
      refine wpAnyH_take (i := 18) (oi := _) (v := ?_) (by simp only [List.getElem?_toArray, List.getElem?_cons_succ, List.getElem?_cons_zero]; rfl) (by kernel_rfl) (by kernel_rfl) (by kernel_rfl) (by exact fun _ _ _ h => h) (Or.inl ⟨by rfl, ?_⟩) (by assumption) ?_
      rotate_left
      · (intro w hSw; (try dsimp only at hSw); go_simp; try with_reducible rfl)
      simp only [Act.put, List.setIfInBounds_toArray, List.set_cons_zero, List.set_cons_succ]
      refine wpAnyH_take (i := 19) (oi := _) (v := ?_) (by simp only [List.getElem?_toArray, List.getElem?_cons_succ, List.getElem?_cons_zero]; rfl) (by kernel_rfl) (by kernel_rfl) (by kernel_rfl) (by exact fun _ _ _ h => h) (Or.inl ⟨by rfl, ?_⟩) (by assumption) ?_
      rotate_left
      · (intro w hSw; (try dsimp only at hSw); go_simp; try with_reducible rfl)
      simp only [Act.put, List.setIfInBounds_toArray, List.set_cons_zero, List.set_cons_succ]
      refine wpAnyH_take (i := 21) (oi := _) (v := ?_) (by simp only [List.getElem?_toArray, List.getElem?_cons_succ, List.getElem?_cons_zero]; rfl) (by kernel_rfl) (by kernel_rfl) (by kernel_rfl) (by exact fun _ _ _ h => h) (Or.inl ⟨by rfl, ?_⟩) (by assumption) ?_
      rotate_left
      · (intro w hSw; (try dsimp only at hSw); go_simp; try with_reducible rfl)
      simp only [Act.put, List.setIfInBounds_toArray, List.set_cons_zero, List.set_cons_succ]
      refine wpAnyH_take (i := 22) (oi := _) (v := ?_) (by simp only [List.getElem?_toArray, List.getElem?_cons_succ, List.getElem?_cons_zero]; rfl) (by kernel_rfl) (by kernel_rfl) (by kernel_rfl) (by exact fun _ _ _ h => h) (Or.inl ⟨by rfl, ?_⟩) (by assumption) ?_
      rotate_left
      · (intro w hSw; (try dsimp only at hSw); go_simp; try with_reducible rfl)
      simp only [Act.put, List.setIfInBounds_toArray, List.set_cons_zero, List.set_cons_succ]
      refine wpAnyH_take (i := 23) (oi := _) (v := ?_) (by simp only [List.getElem?_toArray, List.getElem?_cons_succ, List.getElem?_cons_zero]; rfl) (by kernel_rfl) (by kernel_rfl) (by kernel_rfl) (by exact fun _ _ _ h => h) (Or.inl ⟨by rfl, ?_⟩) (by assumption) ?_
      rotate_left
      · (intro w hSw; (try dsimp only at hSw); go_simp; try with_reducible rfl)
      simp only [Act.put, List.setIfInBounds_toArray, List.set_cons_zero, List.set_cons_succ]
      refine wpAnyH_take (i := 24) (oi := _) (v := ?_) (by simp only [List.getElem?_toArray, List.getElem?_cons_succ, List.getElem?_cons_zero]; rfl) (by kernel_rfl) (by kernel_rfl) (by kernel_rfl) (by exact fun _ _ _ h => h) (Or.inl ⟨by rfl, ?_⟩) (by assumption) ?_
      rotate_left
      · (intro w hSw; (try dsimp only at hSw); go_simp; try with_reducible rfl)
      simp only [Act.put, List.setIfInBounds_toArray, List.set_cons_zero, List.set_cons_succ]
      refine wpAnyH_ready (rs := [20]) (by kernel_rfl) (by simp) ?_
      refine AllReadyH.cons (o := _) (by simp only [List.getElem?_toArray, List.getElem?_cons_succ, List.getElem?_cons_zero]; rfl) (fun K hK => ?_) AllReadyH.nil
      go_simp
      refine (dk_up w5 p b st1 S5.out.dk).mono ?_
      rintro e w6 ⟨rfl, rfl⟩
      clear hHeld
      have hup := not_beq_self st1.dark
      refine hK.out _ _ ⟨fx, fy, f0, f1⟩ (fun hHeld => ?_)
      clear hK K
      refine wpAnyH_take (i := 25) (oi := _) (v := ?_) (by simp only [List.getElem?_toArray, List.getElem?_cons_succ, List.getElem?_cons_zero]; rfl) (by kernel_rfl) (by kernel_rfl) (by kernel_rfl) (by exact fun _ _ _ h => h) (Or.inl ⟨by rfl, ?_⟩) (by assumption) ?_
      rotate_left
      · (intro w hSw; (try dsimp only at hSw); go_simp; try with_reducible rfl)
      simp only [Act.put, List.setIfInBounds_toArray, List.set_cons_zero, List.set_cons_succ]
      refine wpAnyH_take (i := 26) (oi := _) (v := ?_) (by simp only [List.getElem?_toArray, List.getElem?_cons_succ, List.getElem?_cons_zero]; rfl) (by kernel_rfl) (by kernel_rfl) (by kernel_rfl) (by exact fun _ _ _ h => h) (Or.inl ⟨by rfl, ?_⟩) (by assumption) ?_
      rotate_left
      · (intro w hSw; (try dsimp only at hSw); go_simp; try with_reducible rfl)
      simp only [Act.put, List.setIfInBounds_toArray, List.set_cons_zero, List.set_cons_succ]
      refine wpAnyH_done (by kernel_rfl) ?_ _
      go_wp2_with fail
      go_meet
      exact And.intro rfl ⟨g3, c3, S5.out⟩
    case rest =>
      obtain ⟨rfl, g1, c1, hst1⟩ := hcut
      have ST1 := Lib.hid hst1
      clear hst1
      have hml1 := man_load _ p b st1 ST1.out.dk
      obtain ⟨⟨lg, ll, lc⟩, hlf⟩ : ∃ r, r = loadF st1 := ⟨_, rfl⟩
      rw [← hlf] at hml1
      have HLF := Lib.hid hlf
      have HML := Lib.hid hml1
      clear hlf hml1
      go_wp2_with fail
      refine HML.out.mono ?_
      rintro e w7 ⟨hb7, v, rfl, hv, hvb⟩
      dsimp only at hv ⊢
      obtain ⟨va, vc, rfl⟩ := hv.at.shape
      have ST7 := Lib.hid (ST1.out.pure hb7)
      have HV7 := Lib.hid hv
      have hvl : ∀ j, (Value.slice va ll.length vc).ownBlock = some j → j < w7.heap.size := fun j e => (World.ownsRow.lt hv j e).2
      have HVL := Lib.hid (And.intro hvb hvl)
      have hsz17 := hb7.size
      clear hb7 hv hvb hvl
      go_wp2_with fail
      obtain ⟨xa, hxa⟩ : ∃ xa, xa = w7.heap.size := ⟨_, rfl⟩
      have hbz : Below w7.heap.size w7 (w7.alloc (.cells #[.int .i64 lg, .slice va ll.length vc] 40)) := (Below.refl _ _).alloc (Nat.le_refl _) _
      have ST8 := Lib.hid (ST7.out.pure hbz)
      have HV8 := Lib.hid (Fr.ownsRow (Fr.pure (S := fun _ => False) hbz) HV7.out (fun _ _ h => h))
      have BX8 := Lib.hid (ManBox.new lg (.slice va ll.length vc) 40 hxa)
      have HVX : Hid (∀ j, (Value.slice va ll.length vc).ownBlock = some j → wc.heap.size ≤ j ∧ j < xa) := Lib.hid (fun j e => by have := HVL.out.1 j e; have := HVL.out.2 j e; omega)
      have hxw : wc.heap.size ≤ xa := by omega
      rw [← hxa]
      clear hbz hxa
      generalize (w7.alloc (.cells #[.int .i64 lg, .slice va ll.length vc] 40)) = w8 at *
      have hrm8 := rf_loadM w8 x g1 c1 st1 ST8.out.rf
      rw [← HLF.out] at hrm8
      refine hrm8.mono ?_
      clear hrm8
      rintro e w9 ⟨hb9, u, rfl, hu, hub⟩
      dsimp only at hu ⊢
      obtain ⟨ua, uc, rfl⟩ := hu.shape
      have ST9 := Lib.hid (ST8.out.pure hb9)
      have HV9 := Lib.hid (Fr.ownsRow (Fr.pure (S := fun _ => False) hb9) HV8.out (fun _ _ h => h))
      have BX9 := Lib.hid (BX8.out.pure hb9)
      have HU9 := Lib.hid hu
      have hl8 := BX8.out.lt
      have hul : ∀ j, (Value.slice ua ll.length uc).ownBlock = some j → xa < j := fun j e => by have := hub j e; omega
      have HUL := Lib.hid hul
      have hl9 := BX9.out.lt
      have x90 := BX9.out.c0
      have x91 := BX9.out.c1
      clear hb9 hu hub hul
      go_wp2_with fail
      obtain ⟨xb, hxb⟩ : ∃ xb, xb = w9.heap.size := ⟨_, rfl⟩
      have hbz : Below w9.heap.size w9 (w9.alloc (.cells #[.int .i64 lg, .slice ua ll.length uc] 25)) := (Below.refl _ _).alloc (Nat.le_refl _) _
      have ST10 := Lib.hid (ST9.out.pure hbz)
      have HV10 := Lib.hid (Fr.ownsRow (Fr.pure (S := fun _ => False) hbz) HV9.out (fun _ _ h => h))
      have HU10 := Lib.hid (HU9.out.pure hbz)
      have BY10 := Lib.hid (ManBox.new lg (.slice ua ll.length uc) 25 hxb)
      have BX10 := Lib.hid (BX9.out.pure hbz)
      have hxab : xa < xb := by omega
      rw [← hxb]
      clear hbz hxb x90 x91
      generalize (w9.alloc (.cells #[.int .i64 lg, .slice ua ll.length uc] 25)) = w10 at *
      have hll : ll.length ≤ 64 := by have := loadF_len st1; rw [← HLF.out] at this; exact this
      refine (is_same w10 lg _ _ ll HV10.out HU10.out (fun j e e2 => by have := HVX.out j e; have := HUL.out j e2; omega) (by omega)).mono ?_
      rintro e w11 ⟨rfl, hf11⟩
      have hp1 := ST1.out.dk.lt
      have hb1 := ST1.out.dk.own.lt
      have hx1 := ST1.out.rf.lt
      have hg1 := ST1.out.rf.ltg
      have hw1 := lt_of_block ST1.out.bn
      have ST11 := Lib.hid (ST10.out.far (N := wc.heap.size) hf11 (fun k e => (HVX.out k e).1) hp1 hb1 hx1 hg1 (by omega))
      have BX11 := Lib.hid (BX10.out.kept hf11 (fun e => by have := HVX.out _ e; omega))
      have BY11 := Lib.hid (BY10.out.kept hf11 (fun e => by have := HVX.out _ e; omega))
      have HK11 := Lib.hid (HK.out.kept (Fr.pure (S := fun _ => False) ST11.out.below) (fun _ _ h => h))
      have hwp := ST1.out.fp
      have hwb := ST1.out.fb
      have hwx := ST1.out.fx
      have hwg := ST1.out.fg
      clear hf11
      go_wp2_with fail
      refine (dk_crash w11 p b st1 ST11.out.dk (.slice ak ks.length ck) ks HK11.out (fun j e => by have := HKB.out j e; omega)).mono ?_
      rintro e w12 ⟨rfl, hd12, hf12⟩
      obtain ⟨st2, hst2⟩ : ∃ st2, st2 = dkCrash st1 ks := ⟨_, rfl⟩
      rw [← hst2] at hd12
      have HST2 := Lib.hid hst2
      have ST12 := Lib.hid (ST11.out.dkTo hd12 hf12)
      have BX12 := Lib.hid (BX11.out.kept hf12 (by omega))
      have BY12 := Lib.hid (BY11.out.kept hf12 (by omega))
      have HK12 := Lib.hid (HK.out.kept (Fr.pure (S := fun _ => False) ST12.out.below) (fun _ _ h => h))
      have hok2 := hd12.ok
      rw [hst2] at hok2
      have HOK2 := Lib.hid hok2
      clear hd12 hf12 hst2 hok2
      go_wp2_with fail
      refine (rf_crash w12 x g1 c1 st1 ST12.out.rf (.slice ak ks.length ck) ks HK12.out (by omega) (fun j e => by have := HKB.out j e; omega) HOK2.out).mono ?_
      rintro e w13 ⟨rfl, hr13⟩
      rw [← HST2.out] at hr13
      have hlb12 := BY12.out.lt
      obtain ⟨g2, c2, hst13, hg12, hf13⟩ := ST12.out.rfTo2 hr13
      have hg2a : g2 ≠ xa := by omega
      have hg2b : g2 ≠ xb := by omega
      have ST13 := Lib.hid hst13
      have BX13 := Lib.hid (BX12.out.kept hf13 (by omega))
      have BY13 := Lib.hid (BY12.out.kept hf13 (by omega))
      have hg13 := ST13.out.rf.ltg
      clear hst13 hf13 hg12 hr13
      have hm13 := man_load w13 p b st2 ST13.out.dk
      obtain ⟨⟨mg, ml, mc⟩, hlf2⟩ : ∃ r, r = loadF st2 := ⟨_, rfl⟩
      rw [← hlf2] at hm13
      have HLF2 := Lib.hid hlf2
      have HM13 := Lib.hid hm13
      clear hlf2 hm13
      go_wp2_with fail
      refine HM13.out.mono ?_
      rintro e w14 ⟨hb14, v2, rfl, hv2, hvb2⟩
      dsimp only at hv2 ⊢
      obtain ⟨va2, vc2, rfl⟩ := hv2.at.shape
      have ST14 := Lib.hid (ST13.out.pure hb14)
      have HV14 := Lib.hid hv2
      have BX14 := Lib.hid (BX13.out.pure hb14)
      have BY14 := Lib.hid (BY13.out.pure hb14)
      have hsz14 := hb14.size
      have HVX2 : Hid (∀ j, (Value.slice va2 ml.length vc2).ownBlock = some j → w13.heap.size ≤ j ∧ j < w14.heap.size) := Lib.hid (fun j e => ⟨hvb2 j e, (World.ownsRow.lt hv2 j e).2⟩)
      have hlb13 := BY13.out.lt
      have z0 := BX14.out.c0
      have z1 := BX14.out.c1
      have z2 := BX14.out.fz 0
      have z3 := BX14.out.fz 1
      clear hb14 hv2 hvb2
      go_wp2_with fail
      have hfb := box_fr w14 xa mg (.slice va2 ml.length vc2)
      have ST15 := Lib.hid (ST14.out.kept hfb (by omega) (by omega) (by omega) (fun e => hg2a e) (fun k e => by omega))
      have HV15 := Lib.hid (Fr.ownsRow hfb HV14.out (fun k e => by have := HVX2.out k e; omega))
      have BX15 := Lib.hid (BX14.out.turn mg (.slice va2 ml.length vc2))
      have BY15 := Lib.hid (BY14.out.kept hfb (by omega))
      have hs15 := hfb.size
      clear hfb z0 z1 z2 z3
      generalize ((w14.setCell ⟨xa, 0, none⟩ (.int .i64 mg)).setCell ⟨xa, 1, none⟩ (.slice va2 ml.length vc2)) = w15 at *
      have hrm15 := rf_loadM w15 x g2 c2 st2 ST15.out.rf
      rw [← HLF2.out] at hrm15
      refine hrm15.mono ?_
      clear hrm15
      rintro e w16 ⟨hb16, u2, rfl, hu2, hub2⟩
      dsimp only at hu2 ⊢
      obtain ⟨ua2, uc2, rfl⟩ := hu2.shape
      have ST16 := Lib.hid (ST15.out.pure hb16)
      have HV16 := Lib.hid (Fr.ownsRow (Fr.pure (S := fun _ => False) hb16) HV15.out (fun _ _ h => h))
      have BX16 := Lib.hid (BX15.out.pure hb16)
      have BY16 := Lib.hid (BY15.out.pure hb16)
      have HU16 := Lib.hid hu2
      have HUL2 : Hid (∀ j, (Value.slice ua2 ml.length uc2).ownBlock = some j → w14.heap.size ≤ j) := Lib.hid (fun j e => by have := hub2 j e; omega)
      have z0 := BY16.out.c0
      have z1 := BY16.out.c1
      have z2 := BY16.out.fz 0
      have z3 := BY16.out.fz 1
      have hlb14 := BY14.out.lt
      clear hb16 hu2 hub2
      go_upto_region 24 with fail
      have hfb := box_fr w16 xb mg (.slice ua2 ml.length uc2)
      have ST17 := Lib.hid (ST16.out.kept hfb (by omega) (by omega) (by omega) (fun e => hg2b e) (fun k e => by omega))
      have HV17 := Lib.hid (Fr.ownsRow hfb HV16.out (fun k e => by have := HVX2.out k e; omega))
      have HU17 := Lib.hid (HU16.out.kept hfb (fun k e => by have := HUL2.out k e; omega))
      have BX17 := Lib.hid (BX16.out.kept hfb (by omega))
      have BY17 := Lib.hid (BY16.out.turn mg (.slice ua2 ml.length uc2))
      have hml2 : ml.length ≤ 64 := by have := loadF_len st2; rw [← HLF2.out] at this; exact this
      clear hfb z0 z1 z2 z3
      generalize ((w16.setCell ⟨xb, 0, none⟩ (.int .i64 mg)).setCell ⟨xb, 1, none⟩ (.slice ua2 ml.length uc2)) = w17 at *
      refine wp_region_held_drew (S := (fun w' => w'.cell? ⟨xa, 0, none⟩ = some (.int .i64 mg) ∧ w'.cell? ⟨xa, 1, none⟩ = some (.slice va2 ml.length vc2) ∧ w'.cell? ⟨xb, 0, none⟩ = some (.int .i64 mg) ∧ w'.cell? ⟨xb, 1, none⟩ = some (.slice ua2 ml.length uc2) ∧ w'.cell? ⟨x, 0, none⟩ = some (Value.slice (some ⟨g2, 0, none⟩) st2.fs.length c2))) (by kernel_rfl) ⟨BX17.out.c0, BX17.out.c1, BY17.out.c0, BY17.out.c1, ST17.out.rf.cs.1⟩ (fun hHeld => ?_)
      refine wpAnyH_take (i := 0) (oi := _) (v := ?_) (by simp only [List.getElem?_toArray, List.getElem?_cons_zero]; rfl) (by kernel_rfl) (by kernel_rfl) (by kernel_rfl) (by exact fun _ _ _ h => h) (Or.inl ⟨by rfl, ?_⟩) (by assumption) ?_
      rotate_left
      · (intro w hSw; (try dsimp only at hSw); go_simp; try with_reducible rfl)
      simp only [Act.put, List.setIfInBounds_toArray, List.set_cons_zero, List.set_cons_succ]
      refine wpAnyH_take (i := 1) (oi := _) (v := ?_) (by simp only [List.getElem?_toArray, List.getElem?_cons_succ, List.getElem?_cons_zero]; rfl) (by kernel_rfl) (by kernel_rfl) (by kernel_rfl) (by exact fun _ _ _ h => h) (Or.inl ⟨by rfl, ?_⟩) (by assumption) ?_
      rotate_left
      · (intro w hSw; (try dsimp only at hSw); go_simp; try with_reducible rfl)
      simp only [Act.put, List.setIfInBounds_toArray, List.set_cons_zero, List.set_cons_succ]
      refine wpAnyH_take (i := 2) (oi := _) (v := ?_) (by simp only [List.getElem?_toArray, List.getElem?_cons_succ, List.getElem?_cons_zero]; rfl) (by kernel_rfl) (by kernel_rfl) (by kernel_rfl) (by exact fun _ _ _ h => h) (Or.inl ⟨by rfl, ?_⟩) (by assumption) ?_
      rotate_left
      · (intro w hSw; (try dsimp only at hSw); go_simp; try with_reducible rfl)
      simp only [Act.put, List.setIfInBounds_toArray, List.set_cons_zero, List.set_cons_succ]
      refine wpAnyH_take (i := 3) (oi := _) (v := ?_) (by simp only [List.getElem?_toArray, List.getElem?_cons_succ, List.getElem?_cons_zero]; rfl) (by kernel_rfl) (by kernel_rfl) (by kernel_rfl) (by exact fun _ _ _ h => h) (Or.inl ⟨by rfl, ?_⟩) (by assumption) ?_
      rotate_left
      · (intro w hSw; (try dsimp only at hSw); go_simp; try with_reducible rfl)
      simp only [Act.put, List.setIfInBounds_toArray, List.set_cons_zero, List.set_cons_succ]
      refine wpAnyH_take (i := 4) (oi := _) (v := ?_) (by simp only [List.getElem?_toArray, List.getElem?_cons_succ, List.getElem?_cons_zero]; rfl) (by kernel_rfl) (by kernel_rfl) (by kernel_rfl) (by exact fun _ _ _ h => h) (Or.inl ⟨by rfl, ?_⟩) (by assumption) ?_
      rotate_left
      · (intro w hSw; (try dsimp only at hSw); go_simp; try with_reducible rfl)
      simp only [Act.put, List.setIfInBounds_toArray, List.set_cons_zero, List.set_cons_succ]
      refine wpAnyH_take (i := 5) (oi := _) (v := ?_) (by simp only [List.getElem?_toArray, List.getElem?_cons_succ, List.getElem?_cons_zero]; rfl) (by kernel_rfl) (by kernel_rfl) (by kernel_rfl) (by exact fun _ _ _ h => h) (Or.inl ⟨by rfl, ?_⟩) (by assumption) ?_
      rotate_left
      · (intro w hSw; (try dsimp only at hSw); go_simp; try with_reducible rfl)
      simp only [Act.put, List.setIfInBounds_toArray, List.set_cons_zero, List.set_cons_succ]
      refine wpAnyH_ready (rs := [6]) (by kernel_rfl) (by simp) ?_
      refine AllReadyH.cons (o := _) (by simp only [List.getElem?_toArray, List.getElem?_cons_succ, List.getElem?_cons_zero]; rfl) (fun K hK => ?_) AllReadyH.nil
      go_simp
      refine (is_same w17.drew mg _ _ ml (World.ownsRow.drew HV17.out) (HU17.out.pure (Below.refl _ _).drew) (fun j e e2 => by have := HVX2.out j e; have := HUL2.out j e2; omega) (by omega)).mono ?_
      rintro e w18 ⟨rfl, hf18⟩
      have ST18 := Lib.hid (ST17.out.drew.kept hf18 (fun e => by have := HVX2.out _ e; omega) (fun e => by have := HVX2.out _ e; omega) (fun e => by have := HVX2.out _ e; omega) (fun e => by have := HVX2.out _ e; omega) (fun k e => by have := HVX2.out _ e; omega))
      have BX18 := Lib.hid ((BX17.out.pure (Below.refl _ _).drew).kept hf18 (fun e => by have := HVX2.out _ e; omega))
      have BY18 := Lib.hid ((BY17.out.pure (Below.refl _ _).drew).kept hf18 (fun e => by have := HVX2.out _ e; omega))
      clear hf18 hHeld
      refine hK.out _ _ ⟨BX18.out.c0, BX18.out.c1, BY18.out.c0, BY18.out.c1, ST18.out.rf.cs.1⟩ (fun hHeld => ?_)
      clear hK K
      refine wpAnyH_take (i := 7) (oi := _) (v := ?_) (by simp only [List.getElem?_toArray, List.getElem?_cons_succ, List.getElem?_cons_zero]; rfl) (by kernel_rfl) (by kernel_rfl) (by kernel_rfl) (by exact fun _ _ _ h => h) (Or.inl ⟨by rfl, ?_⟩) (by assumption) ?_
      rotate_left
      · (intro w hSw; (try dsimp only at hSw); go_simp; try with_reducible rfl)
      simp only [Act.put, List.setIfInBounds_toArray, List.set_cons_zero, List.set_cons_succ]
      refine wpAnyH_take (i := 8) (oi := _) (v := ?_) (by simp only [List.getElem?_toArray, List.getElem?_cons_succ, List.getElem?_cons_zero]; rfl) (by kernel_rfl) (by kernel_rfl) (by kernel_rfl) (by exact fun _ _ _ h => h) (Or.inl ⟨by rfl, ?_⟩) (by assumption) ?_
      rotate_left
      · (intro w hSw; (try dsimp only at hSw); go_simp; try with_reducible rfl)
      simp only [Act.put, List.setIfInBounds_toArray, List.set_cons_zero, List.set_cons_succ]
      refine wpAnyH_take (i := 9) (oi := _) (v := ?_) (by simp only [List.getElem?_toArray, List.getElem?_cons_succ, List.getElem?_cons_zero]; rfl) (by kernel_rfl) (by kernel_rfl) (by kernel_rfl) (by exact fun _ _ _ h => h) (Or.inl ⟨by rfl, ?_⟩) (by assumption) ?_
      rotate_left
      · (intro w hSw; (try dsimp only at hSw); go_simp; try with_reducible rfl)
      simp only [Act.put, List.setIfInBounds_toArray, List.set_cons_zero, List.set_cons_succ]
      refine wpAnyH_take (i := 10) (oi := _) (v := ?_) (by simp only [List.getElem?_toArray, List.getElem?_cons_succ, List.getElem?_cons_zero]; rfl) (by kernel_rfl) (by kernel_rfl) (by kernel_rfl) (by exact fun _ _ _ h => h) (Or.inl ⟨by rfl, ?_⟩) (by assumption) ?_
      rotate_left
      · (intro w hSw; (try dsimp only at hSw); go_simp; try with_reducible rfl)
      simp only [Act.put, List.setIfInBounds_toArray, List.set_cons_zero, List.set_cons_succ]
      refine wpAnyH_take (i := 12) (oi := _) (v := ?_) (by simp only [List.getElem?_toArray, List.getElem?_cons_succ, List.getElem?_cons_zero]; rfl) (by kernel_rfl) (by kernel_rfl) (by kernel_rfl) (by exact fun _ _ _ h => h) (Or.inl ⟨by rfl, ?_⟩) (by assumption) ?_
      rotate_left
      · (intro w hSw; (try dsimp only at hSw); go_simp; try with_reducible rfl)
      simp only [Act.put, List.setIfInBounds_toArray, List.set_cons_zero, List.set_cons_succ]
      refine wpAnyH_take (i := 13) (oi := _) (v := ?_) (by simp only [List.getElem?_toArray, List.getElem?_cons_succ, List.getElem?_cons_zero]; rfl) (by kernel_rfl) (by kernel_rfl) (by kernel_rfl) (by exact fun _ _ _ h => h) (Or.inl ⟨by rfl, ?_⟩) (by assumption) ?_
      rotate_left
      · (intro w hSw; (try dsimp only at hSw); go_simp; try with_reducible rfl)
      simp only [Act.put, List.setIfInBounds_toArray, List.set_cons_zero, List.set_cons_succ]
      refine wpAnyH_take (i := 14) (oi := _) (v := ?_) (by simp only [List.getElem?_toArray, List.getElem?_cons_succ, List.getElem?_cons_zero]; rfl) (by kernel_rfl) (by kernel_rfl) (by kernel_rfl) (by exact fun _ _ _ h => h) (Or.inl ⟨by rfl, ?_⟩) (by assumption) ?_
      rotate_left
      · (intro w hSw; (try dsimp only at hSw); go_simp; try with_reducible rfl)
      simp only [Act.put, List.setIfInBounds_toArray, List.set_cons_zero, List.set_cons_succ]
      refine wpAnyH_take (i := 15) (oi := _) (v := ?_) (by simp only [List.getElem?_toArray, List.getElem?_cons_succ, List.getElem?_cons_zero]; rfl) (by kernel_rfl) (by kernel_rfl) (by kernel_rfl) (by exact fun _ _ _ h => h) (Or.inl ⟨by rfl, ?_⟩) (by assumption) ?_
      rotate_left
      · (intro w hSw; (try dsimp only at hSw); go_simp; try with_reducible rfl)
      simp only [Act.put, List.setIfInBounds_toArray, List.set_cons_zero, List.set_cons_succ]
      refine wpAnyH_ready (rs := [11]) (by kernel_rfl) (by simp) ?_
      refine AllReadyH.cons (o := _) (by simp only [List.getElem?_toArray, List.getElem?_cons_succ, List.getElem?_cons_zero]; rfl) (fun K hK => ?_) AllReadyH.nil
      go_simp
      refine (dk_files w18 p b st2 ST18.out.dk).mono ?_
      rintro e w19 ⟨v4, rfl, hv4, _, hb4⟩
      have ST19 := Lib.hid (ST18.out.pure hb4)
      have BX19 := Lib.hid (BX18.out.pure hb4)
      have BY19 := Lib.hid (BY18.out.pure hb4)
      have HV4 := Lib.hid hv4.at
      have HL4 := Lib.hid ST19.out.rf.own.at
      have hl4 := ST19.out.dk.ok.fs.few
      clear hv4 hb4 hHeld
      refine hK.out _ _ ⟨BX19.out.c0, BX19.out.c1, BY19.out.c0, BY19.out.c1, ST19.out.rf.cs.1⟩ (fun hHeld => ?_)
      clear hK K
      refine wpAnyH_ready (rs := [16]) (by kernel_rfl) (by simp) ?_
      refine AllReadyH.cons (o := _) (by simp only [List.getElem?_toArray, List.getElem?_cons_succ, List.getElem?_cons_zero]; rfl) (fun K hK => ?_) AllReadyH.nil
      go_simp
      refine (rf_files_same w19 v4 _ st2.fs HV4.out HL4.out (by omega)).mono ?_
      rintro e w20 ⟨rfl, hb5⟩
      have ST20 := Lib.hid (ST19.out.pure hb5)
      have BX20 := Lib.hid (BX19.out.pure hb5)
      have BY20 := Lib.hid (BY19.out.pure hb5)
      clear hb5 hHeld
      refine hK.out _ _ ⟨BX20.out.c0, BX20.out.c1, BY20.out.c0, BY20.out.c1, ST20.out.rf.cs.1⟩ (fun hHeld => ?_)
      clear hK K
      refine wpAnyH_take (i := 17) (oi := _) (v := ?_) (by simp only [List.getElem?_toArray, List.getElem?_cons_succ, List.getElem?_cons_zero]; rfl) (by kernel_rfl) (by kernel_rfl) (by kernel_rfl) (by exact fun _ _ _ h => h) (Or.inl ⟨by rfl, ?_⟩) (by assumption) ?_
      rotate_left
      · (intro w hSw; (try dsimp only at hSw); go_simp; try with_reducible rfl)
      simp only [Act.put, List.setIfInBounds_toArray, List.set_cons_zero, List.set_cons_succ]
      refine wpAnyH_take (i := 18) (oi := _) (v := ?_) (by simp only [List.getElem?_toArray, List.getElem?_cons_succ, List.getElem?_cons_zero]; rfl) (by kernel_rfl) (by kernel_rfl) (by kernel_rfl) (by exact fun _ _ _ h => h) (Or.inl ⟨by rfl, ?_⟩) (by assumption) ?_
      rotate_left
      · (intro w hSw; (try dsimp only at hSw); go_simp; try with_reducible rfl)
      simp only [Act.put, List.setIfInBounds_toArray, List.set_cons_zero, List.set_cons_succ]
      refine wpAnyH_done (by kernel_rfl) ?_ _
      have m0 := (cell_of_row _ _ 0 _ _ _ ST20.out.bm).trans (show _ = some (Value.int .i64 G) from rfl)
      have m1 := (cell_of_row _ _ 1 _ _ _ ST20.out.bm).trans (show _ = some (Value.slice am m.length cm) from rfl)
      have m2 := frozen_of_row _ _ 0 _ _ ST20.out.bm
      have m3 := frozen_of_row _ _ 1 _ _ ST20.out.bm
      have n0 := (cell_of_row _ _ 0 _ _ _ ST20.out.bn).trans (show _ = some (Value.int .i64 H) from rfl)
      have n1 := (cell_of_row _ _ 1 _ _ _ ST20.out.bn).trans (show _ = some (Value.slice an n.length cn) from rfl)
      clear hHeld
      go_wp2_with fail
      go_roundw
      case rel => exact ⟨k + 1, g2, c2, st2, H, an, cn, n, by go_num, by omega, ST20.out.turn, HN.out, hnl⟩
      case measure => simp [intOf]; omega
end Go.Proofs.YtppghhophaobdaaGreatDoor

/- The walk of the law ManifSwaps. -/
namespace Go.Proofs.YtppghhophaobdaaGreatDoor
open Go.RowKit Go.Maps Go.Sort

def SwMidE (w : World) (p b x : Nat) (G : Int) (sv : Value) (H : Int) (tv : Value) (s : Value) (W : World) : Prop :=
  s = .bool false ∧ ∃ st g c, SwAt w W p b x g c st st G sv H tv
set_option maxRecDepth 100000 in
set_option maxHeartbeats 8000000 in
theorem manifSwaps_any (w : World) (hp : Pow w) (cp : Int) (sv : Value) (l : Fs) (hl : FilesAt w sv l) (hlen : l.length ≤ 4398046511104) (hsz : ∀ f ∈ l, f.name.length ≤ 140737488355328 ∧ f.firm.length ≤ 140737488355328 ∧ f.pend.length ≤ 140737488355328) (hcp : cp ≤ 9223372036854775807)
    (G : Int) (mv : Value) (m : Segs) (hm : SegsAt w mv m) (hml : m.length ≤ 9223372036854775807) (H : Int) (nv : Value) (n : Segs) (hn : SegsAt w nv n) (hnl : n.length ≤ 9223372036854775807)
    (cut : Int) (hcut : -9223372036854775808 ≤ cut) (hcut1 : cut ≤ 9223372036854775807) (kv : Value) (ks : List Int) (hk : IntsAt w kv ks) (hkl : ks.length ≤ 9223372036854775807) (hkb : ∀ j, kv.ownBlock = some j → j < w.heap.size) :
    Calls Tryz.prog 3 #[.int .i64 cp, sv, .agg #[.int .i64 G, mv], .agg #[.int .i64 H, nv], .int .i64 cut, kv] w fun e w' => e = .returned (.bool true) ∧ Below w.heap.size w w' := by
  obtain ⟨am, cm, rfl⟩ := hm.shape
  obtain ⟨an, cn, rfl⟩ := hn.shape
  obtain ⟨ak, ck, rfl⟩ : ∃ a c, kv = .slice a ks.length c := by obtain ⟨a, c, e, _⟩ := hk; exact ⟨a, c, e⟩
  have hbz : Below w.heap.size w ((w.alloc (.cells #[.int .i64 G, .slice am m.length cm] 25)).alloc (.cells #[.int .i64 H, .slice an n.length cn] 25)) := ((Below.refl _ _).alloc (Nat.le_refl _) _).alloc (by simp) _
  have HB := Lib.hid hbz
  have HP := Lib.hid (below_pow hbz hp)
  have HL := Lib.hid (hl.pure hbz)
  have HL0 := Lib.hid hl
  have HM := Lib.hid hm
  have HN := Lib.hid hn
  have HKI := Lib.hid hk
  have HKB := Lib.hid hkb
  have HP0 := Lib.hid hp
  clear hl hm hn hk hkb hbz hp
  go_enter Tryz.func3, Tryz.ntmps3
  go_wp2_with fail
  refine (many_any _ sv l HL.out hlen).mono ?_
  rintro e w1 ⟨⟨bo, rfl⟩, hb1⟩
  have B1 := Lib.hid (HB.out.trans (hb1.mono HB.out.size))
  have P1 := Lib.hid (below_pow hb1 HP.out)
  have hbox0 : ((w.alloc (.cells #[.int .i64 G, .slice am m.length cm] 25)).alloc (.cells #[.int .i64 H, .slice an n.length cn] 25)).heap[w.heap.size]? = some (.cells #[.int .i64 G, .slice am m.length cm] 25 (0, 0)) := (Below.heap_alloc _ _ _ (by simp)).trans (alloc_at_top _ _ rfl)
  have hbox1 : ((w.alloc (.cells #[.int .i64 G, .slice am m.length cm] 25)).alloc (.cells #[.int .i64 H, .slice an n.length cn] 25)).heap[w.heap.size + 1]? = some (.cells #[.int .i64 H, .slice an n.length cn] 25 (0, 0)) := alloc_at_top _ _ (by simp)
  have bm := (hb1.block _ (lt_of_block hbox0)).trans hbox0
  have bn := (hb1.block _ (lt_of_block hbox1)).trans hbox1
  have m1 : w1.cell? ⟨w.heap.size, 1, none⟩ = some (.slice am m.length cm) := (cell_of_row w1 _ 1 _ _ _ bm).trans rfl
  have n1 : w1.cell? ⟨w.heap.size + 1, 1, none⟩ = some (.slice an n.length cn) := (cell_of_row w1 _ 1 _ _ _ bn).trans rfl
  have BM := Lib.hid bm
  have BN := Lib.hid bn
  clear hbox0 hbox1 bm bn hb1
  cases bo
  rotate_left
  · go_wp2_with fail
    refine (awake_any _ P1.out).mono ?_
    rintro e w2 ⟨rfl, hb2⟩
    have B2 := Lib.hid (B1.out.trans (hb2.mono B1.out.size))
    clear hb2
    go_wp2
    go_ret
    exact ⟨rfl, B2.out⟩
  by_cases hm100 : 100 < m.length
  · go_wp2_with fail
    refine (awake_any _ P1.out).mono ?_
    rintro e w2 ⟨rfl, hb2⟩
    have B2 := Lib.hid (B1.out.trans (hb2.mono B1.out.size))
    clear hb2
    go_wp2
    go_ret
    exact ⟨rfl, B2.out⟩
  by_cases hn100 : 100 < n.length
  · go_wp2_with fail
    refine (awake_any _ P1.out).mono ?_
    rintro e w2 ⟨rfl, hb2⟩
    have B2 := Lib.hid (B1.out.trans (hb2.mono B1.out.size))
    clear hb2
    go_wp2
    go_ret
    exact ⟨rfl, B2.out⟩
  by_cases hk100 : 100 < ks.length
  · go_wp2_with fail
    refine (awake_any _ P1.out).mono ?_
    rintro e w2 ⟨rfl, hb2⟩
    have B2 := Lib.hid (B1.out.trans (hb2.mono B1.out.size))
    clear hb2
    go_wp2
    go_ret
    exact ⟨rfl, B2.out⟩
  go_wp2_with fail
  have HL1 := Lib.hid (HL0.out.pure B1.out)
  refine (dk_load w1 cp sv l HL1.out hlen hsz hcp).mono ?_
  rintro e w3 ⟨hb3, hload⟩
  have B3 := Lib.hid (B1.out.trans (hb3.mono B1.out.size))
  have HL3 := Lib.hid (HL0.out.pure B3.out)
  have BM3 := Lib.hid ((hb3.block _ (lt_of_block BM.out)).trans BM.out)
  have BN3 := Lib.hid ((hb3.block _ (lt_of_block BN.out)).trans BN.out)
  have P3 := Lib.hid (below_pow hb3 P1.out)
  have hs13 := hb3.size
  clear hb3
  rcases load_cases cp l with ⟨c, hcf, hc0, hld⟩ | hld
  · rw [hld] at hload
    simp only at hload
    subst hload
    go_wp2_with fail
    refine (rf_load w3 cp sv l HL3.out hlen hsz hcp).mono ?_
    rintro e w4 ⟨hb4, hload4⟩
    rw [hld] at hload4
    simp only at hload4
    subst hload4
    have B4 := Lib.hid (B3.out.trans (hb4.mono B3.out.size))
    have P4 := Lib.hid (below_pow hb4 P3.out)
    clear hb4
    go_wp2_with fail
    refine (awake_any _ P4.out).mono ?_
    rintro e w5 ⟨rfl, hb5⟩
    have B5 := Lib.hid (B4.out.trans (hb5.mono B4.out.size))
    clear hb5
    go_wp2
    go_ret
    exact ⟨rfl, B5.out⟩
  · rw [hld] at hload
    obtain ⟨p, b, hpg, hbg, rfl, hd3⟩ := hload
    have HD3 := Lib.hid hd3
    have hp3 := hd3.lt
    have hbl3 := hd3.own.lt
    clear hd3
    go_wp2_with fail
    refine (rf_load w3 cp sv l HL3.out hlen hsz hcp).mono ?_
    rintro e w4 ⟨hb4, hload4⟩
    rw [hld] at hload4
    obtain ⟨x, g, c, hxg, hgg, rfl, hr4⟩ := hload4
    have hw12 : w.heap.size + 2 ≤ w1.heap.size := by have := lt_of_block BN.out; omega
    have ST4 := Lib.hid (show SwAt w w4 p b x g c ⟨l, cp, -1, false⟩ ⟨l, cp, -1, false⟩ G (.slice am m.length cm) H (.slice an n.length cn) from
      ⟨HD3.out.pure hb4, hr4, (hb4.block _ (lt_of_block BM3.out)).trans BM3.out, (hb4.block _ (lt_of_block BN3.out)).trans BN3.out, by omega, by omega, by omega, by omega, by omega, by omega, by omega, by omega, B3.out.trans (hb4.mono B3.out.size)⟩)
    have P4 := Lib.hid (below_pow hb4 P3.out)
    clear hb4 hr4 hld
    go_upto_region 9 with fail
    go_cut [70] (SwMidE w p b x G (.slice am m.length cm) H (.slice an n.length cn))
    case first =>
      by_cases hc0 : 0 ≤ cut
      · go_wp2_with fail
        refine (dk_cut w4 p b _ ST4.out.dk cut hcut hcut1).mono ?_
        rintro e w5 ⟨rfl, hd5, hf5⟩
        have ST5 := Lib.hid (ST4.out.dkTo hd5 hf5)
        clear hd5 hf5
        go_wp2_with fail
        refine (rf_cut w5 x g c _ ST5.out.rf cut hcut1).mono ?_
        rintro e w6 ⟨rfl, hr6⟩
        obtain ⟨g6, c6, ST6⟩ := ST5.out.rfTo hr6
        have H6 := Lib.hid ST6
        clear ST6 hr6
        generalize (dkCut ⟨l, cp, -1, false⟩ cut).2 = cc at *
        go_wp2_with fail
        go_meet
        exact And.intro rfl ⟨_, _, _, H6.out⟩
      · go_wp2_with fail
        go_meet
        exact And.intro rfl ⟨_, _, _, ST4.out⟩
    case rest =>
      obtain ⟨rfl, st, g', c', hst⟩ := hcut
      go_upto_if 70 with fail
      go_cut [] (fun wx => wc = wx)
      case first =>
        go_wp2_with fail
        go_meet
        exact rfl
      case rest =>
        subst hcut
        apply_assumption
        exact sw_loop w _ HP0.out p b x g' c' st G am cm m H an cn n hst HM.out (by omega) HN.out (by omega) ak ck ks HKI.out (by omega) HKB.out
end Go.Proofs.YtppghhophaobdaaGreatDoor
