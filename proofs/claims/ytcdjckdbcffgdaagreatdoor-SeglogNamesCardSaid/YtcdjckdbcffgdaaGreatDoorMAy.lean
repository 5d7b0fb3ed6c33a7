/- The walk of seglog.Init. -/
import Derived.Test.YtcdjckdbcffgdaaGreatDoorMCj
import Derived.Test.YtcdjckdbcffgdaaGreatDoorMAw
import Derived.Test.YtcdjckdbcffgdaaGreatDoorMCi
namespace Go.Proofs.YtcdjckdbcffgdaaGreatDoor
open Go.RowKit

theorem Tryz.infoStep : (Tryz.prog.info? 88).map (fun i => (i.zero, i.size, i.bytes)) = some (some (.agg #[.nilFunc]), 1, 8) := by kernel_rfl

/-- What Init leaves, and tells. -/
def InitPost (p b : Nat) (r : DkSt × Int × Option LgSt) (w : World) (e : Ending) (w' : World) : Prop :=
  IsDk w' p b r.1 ∧ DFr p b w w' ∧ match r.2.2 with
    | none => e = .returned (.tuple #[.pointer none, .int .i64 r.2.1])
    | some l => ∃ (g : Nat) (F : Nat → Prop), IsLg w' F g p l ∧ (∀ k, F k → w.heap.size ≤ k) ∧ e = .returned (.tuple #[.pointer (some ⟨g, 0, none⟩), .int .i64 r.2.1])

theorem hdF_code (f : Int) : (hdF f).2 = if numberB f then 0 else 1 := by unfold hdF; split <;> rfl
set_option maxRecDepth 100000 in
set_option maxHeartbeats 2000000 in
/-- The arms of Init that refuse. -/
theorem init_bad (w : World) (p b : Nat) (st : DkSt) (hd : IsDk w p b st) (first : Int) (c : Cfg) (h0 : 0 ≤ c.v) (h1 : c.v ≤ 255) (hbad : cfgOk c = false ∨ numberB first = false) :
    Calls Tryz.prog 9 #[.pointer (some ⟨p, 0, none⟩), .int .i64 first, .agg #[.int .i64 c.ss, .int .i64 c.ev, .int .u8 c.v]] w fun e w' => InitPost p b (st, 1, none) w e w' := by
  have HD := Lib.hid hd
  clear hd
  go_enter Tryz.func9, Tryz.ntmps9
  go_wp2_with fail
  refine (Header_any first _).mono ?_
  rintro e w1 ⟨⟨r, hr, rfl⟩, hb1⟩
  have hs1 := hb1.size
  simp at hs1
  have HB := Lib.hid ((box2_below w (.cells #[.pointer (some ⟨p, 0, none⟩)] 26) (.cells #[.int .i64 c.ss, .int .i64 c.ev, .int .u8 c.v] 23)).trans (hb1.mono (by simp; omega)))
  have k0 : w1.cell? ⟨w.heap.size, 0, none⟩ = some (.pointer (some ⟨p, 0, none⟩)) := by rw [hb1.cell (by simp; omega), World.cell?_alloc_past _ _ _ (by simp), World.cell?_alloc_at _ _ _ _ rfl]; rfl
  have kc : ∀ j, w1.cell? ⟨w.heap.size + 1, j, none⟩ = (#[.int .i64 c.ss, .int .i64 c.ev, .int .u8 c.v] : Array Value)[j]? := fun j => by rw [hb1.cell (by simp), World.cell?_alloc_at _ _ _ _ (by simp)]
  have k1 := kc 0
  have k2 := kc 1
  have k3 := kc 2
  simp at k1 k2 k3
  clear hb1 hr kc
  rw [hdF_code]
  cases hc : cfgOk c
  · have HC := Lib.hid hc
    clear hc
    cases hn : numberB first
    all_goals
      clear hn
      simp only [if_true, if_false, Bool.false_eq_true]
      go_wp2_with (go_at_call 20; refine (mayConfig_any _ c h0 h1).mono ?_; rintro e w2 ⟨rfl, hb2⟩; rw [HC.out]; have HB2 := Lib.hid (HB.out.trans (hb2.mono HB.out.size)); clear hb2)
      refine bodyPost_ret (v := .tuple #[.pointer none, .int .i64 1]) (by simp [results, Tryz.results9, go_sem]) rfl ?_
      exact ⟨HD.out.pure HB2.out, Fr.pure HB2.out, rfl⟩
  · have HC := Lib.hid hc
    have hn : numberB first = false := hbad.elim (fun h => by rw [hc] at h; cases h) id
    rw [hn]
    clear hn hc
    simp only [if_false, Bool.false_eq_true]
    go_wp2_with (go_at_call 20; refine (mayConfig_any _ c h0 h1).mono ?_; rintro e w2 ⟨rfl, hb2⟩; rw [HC.out]; have HB2 := Lib.hid (HB.out.trans (hb2.mono HB.out.size)); clear hb2)
    refine bodyPost_ret (v := .tuple #[.pointer none, .int .i64 1]) (by simp [results, Tryz.results9, go_sem]) rfl ?_
    exact ⟨HD.out.pure HB2.out, Fr.pure HB2.out, rfl⟩
theorem names_contains (fs : Fs) (n : List UInt8) : (fs.map (·.name)).contains n = (fsGet fs n).isSome := by
  unfold fsGet
  rw [Bool.eq_iff_iff, List.contains_iff_mem, List.find?_isSome, List.mem_map]
  constructor
  · rintro ⟨f, hf, rfl⟩; exact ⟨f, hf, by simp⟩
  · rintro ⟨f, hf, e⟩; exact ⟨f, hf, by simpa using e⟩

set_option maxRecDepth 100000 in
set_option maxHeartbeats 2000000 in
theorem init_no (w : World) (p b : Nat) (st : DkSt) (hd : IsDk w p b st) (first : Int) (c : Cfg) (h0 : 0 ≤ c.v) (h1 : c.v ≤ 255) (hc : cfgOk c = true) (hn : numberB first = true) (hno : st.dark = true ∨ (fsGet st.fs fileN).isSome = true) (E : Int) (hE : E = if st.dark then 45 else 6) :
    Calls Tryz.prog 9 #[.pointer (some ⟨p, 0, none⟩), .int .i64 first, .agg #[.int .i64 c.ss, .int .i64 c.ev, .int .u8 c.v]] w fun e w' => InitPost p b (st, E, none) w e w' := by
  have HE := Lib.hid hE
  clear hE
  have HD := Lib.hid hd
  have hpl := hd.lt
  have hbl := hd.own.lt
  clear hd
  go_enter Tryz.func9, Tryz.ntmps9
  go_wp2_with fail
  refine (Header_any first _).mono ?_
  rintro e w1 ⟨⟨r, hr, rfl⟩, hb1⟩
  have hs1 := hb1.size
  simp at hs1
  have HB := Lib.hid ((box2_below w (.cells #[.pointer (some ⟨p, 0, none⟩)] 26) (.cells #[.int .i64 c.ss, .int .i64 c.ev, .int .u8 c.v] 23)).trans (hb1.mono (by simp; omega)))
  have k0 : w1.cell? ⟨w.heap.size, 0, none⟩ = some (.pointer (some ⟨p, 0, none⟩)) := by rw [hb1.cell (by simp; omega), World.cell?_alloc_past _ _ _ (by simp), World.cell?_alloc_at _ _ _ _ rfl]; rfl
  have kc : ∀ j, w1.cell? ⟨w.heap.size + 1, j, none⟩ = (#[.int .i64 c.ss, .int .i64 c.ev, .int .u8 c.v] : Array Value)[j]? := fun j => by rw [hb1.cell (by simp), World.cell?_alloc_at _ _ _ _ (by simp)]
  have k1 := kc 0
  have k2 := kc 1
  have k3 := kc 2
  simp at k1 k2 k3
  clear hb1 hr kc
  rw [hdF_code, hn]
  have HC := Lib.hid hc
  clear hc hn
  simp only [if_true]
  go_wp2_with (go_at_call 20; refine (mayConfig_any _ c h0 h1).mono ?_; rintro e w2 ⟨rfl, hb2⟩; rw [HC.out]; have HB2 := Lib.hid (HB.out.trans (hb2.mono HB.out.size)); have hs2 := hb2.size; have m0 := (hb2.cell (p := ⟨w.heap.size, 0, none⟩) (show w.heap.size < w1.heap.size by omega)).trans k0; clear hb2)
  refine (dk_list _ p b st (HD.out.pure HB2.out)).mono ?_
  rintro e w3 ⟨hb3, hpost⟩
  have HB3 := Lib.hid (HB2.out.trans (hb3.mono HB2.out.size))
  clear hb3
  cases hdk : st.dark
  · have hsome : (fsGet st.fs fileN).isSome = true := hno.elim (fun h => by rw [hdk] at h; cases h) id
    have HDK := Lib.hid hdk
    rw [hdk] at hpost
    obtain ⟨v, rfl, hv⟩ := hpost
    have HV := Lib.hid hv
    have HS := Lib.hid hsome
    clear hv hdk hsome hno
    go_wp2_with fail
    refine (contains_any _ _ v _ HV.out _ (by rw [List.length_map]; have := HD.out.ok.fs.few; omega)).mono ?_
    rintro e w4 ⟨rfl, rfl⟩
    rw [names_contains, show (⟨#[77, 65, 78, 73, 70, 69, 83, 84]⟩ : ByteArray).data.toList = fileN from rfl, HS.out]
    go_wp2
    refine bodyPost_ret (v := .tuple #[.pointer none, .int .i64 6]) (by simp [results, Tryz.results9, go_sem]) rfl ?_
    have e1 := HE.out
    rw [HDK.out] at e1
    subst e1
    exact ⟨HD.out.pure HB3.out, Fr.pure HB3.out, rfl⟩
  · have HDK := Lib.hid hdk
    rw [hdk] at hpost
    obtain rfl := hpost
    clear hdk hno
    go_wp2
    refine bodyPost_ret (v := .tuple #[.pointer none, .int .i64 45]) (by simp [results, Tryz.results9, go_sem]) rfl ?_
    have e1 := HE.out
    rw [HDK.out] at e1
    subst e1
    exact ⟨HD.out.pure HB3.out, Fr.pure HB3.out, rfl⟩
end Go.Proofs.YtcdjckdbcffgdaaGreatDoor

/- Init, behind the loop: the steps, and the log. -/
namespace Go.Proofs.YtcdjckdbcffgdaaGreatDoor
open Go.RowKit

theorem sgScan_head {q : Nat} (hq : q ≤ 1048576) : sgScan (segHead q) = (0, (q, [])) := by
  have h1 := first_head hq []
  rw [List.append_nil] at h1
  have h2 : scanF (segHead q).length q ((segHead q).drop 16) = [] := by
    rw [List.drop_of_length_le (by rw [segHead_length]; exact Nat.le_refl _)]
    exact scan_stop (by rw [frRead_nil]; simp)
  unfold sgScan
  rw [h1]
  simp only [ne_eq, not_true_eq_false, if_false]
  rw [h2]

theorem ev_nat {c : Cfg} (hc : cfgOk c = true) : ∃ ev : Nat, (ev : Int) = c.ev ∧ 1 ≤ ev ∧ ev ≤ 64 ∧ c.ev.toNat = ev := by
  unfold cfgOk at hc
  simp only [Bool.and_eq_true, decide_eq_true_eq] at hc
  exact ⟨c.ev.toNat, by omega, by omega, by omega, rfl⟩

set_option maxHeartbeats 1000000 in
/-- The log, as Init leaves it. -/
theorem init_post (w w1 w2 : World) (p b : Nat) (st1 : DkSt) (q : Nat) (c : Cfg) (ev : Nat) (HE0 : Hid ((ev : Int) = c.ev)) (HE3 : Hid (c.ev.toNat = ev)) (HF : Hid (DFr p b w w1)) (HD : Hid (IsDk w1 p b st1)) (eB : Nat) (ew : w.heap.size ≤ eB)
    (E0 : Hid (w1.cell? ⟨eB, 0, none⟩ = some (.int .i64 0))) (E1 : Hid (w1.cell? ⟨eB, 1, none⟩ = some (.int .i64 (q : Int)))) (hel : eB < w1.heap.size) (HB2 : Hid (Below w1.heap.size w1 w2)) (x : Nat) (sv : Value) (HX : Hid (w1.heap.size ≤ x)) (HSV : Hid (∀ b, sv.ownBlock = some b → w1.heap.size ≤ b))
    (HIX : Hid (IsIx w2 x ev q (SgIx.next (q, [])) (SgIx.good (q, [])) sv (marks ev q []))) :
    InitPost p b (st1, 0, some ⟨c, 0, [(0, (q : Int))], [(q, [])]⟩) w (.returned (.tuple #[.pointer (some ⟨w2.heap.size + 1, 0, none⟩), .int .i64 0])) ((w2.alloc (.cells #[.pointer (some ⟨x, 0, none⟩)] 95)).alloc (.cells #[.pointer (some ⟨p, 0, none⟩), .int .i64 c.ss, .int .i64 (ev : Int), .int .u8 c.v, .int .i64 0, .slice (some ⟨eB, 0, none⟩) 1 1, .slice (some ⟨w2.heap.size, 0, none⟩) 1 1] 100)) := by
  have hbn : Below w2.heap.size w2 ((w2.alloc (.cells #[.pointer (some ⟨x, 0, none⟩)] 95)).alloc (.cells #[.pointer (some ⟨p, 0, none⟩), .int .i64 c.ss, .int .i64 (ev : Int), .int .u8 c.v, .int .i64 0, .slice (some ⟨eB, 0, none⟩) 1 1, .slice (some ⟨w2.heap.size, 0, none⟩) 1 1] 100)) := box2_below _ _ _
  have hs2 := HB2.out.size
  have hrow : ((w2.alloc (.cells #[.pointer (some ⟨x, 0, none⟩)] 95)).alloc (.cells #[.pointer (some ⟨p, 0, none⟩), .int .i64 c.ss, .int .i64 (ev : Int), .int .u8 c.v, .int .i64 0, .slice (some ⟨eB, 0, none⟩) 1 1, .slice (some ⟨w2.heap.size, 0, none⟩) 1 1] 100)).ownsRow 0 95 1 (.slice (some ⟨w2.heap.size, 0, none⟩) 1 1) 1 [.pointer (some ⟨x, 0, none⟩)] :=
    (World.ownsRow_lit (size := 1) w2 #[.pointer (some ⟨x, 0, none⟩)] 1 (Nat.zero_le _) (by decide) rfl).alloc _
  have hcell : ((w2.alloc (.cells #[.pointer (some ⟨x, 0, none⟩)] 95)).alloc (.cells #[.pointer (some ⟨p, 0, none⟩), .int .i64 c.ss, .int .i64 (ev : Int), .int .u8 c.v, .int .i64 0, .slice (some ⟨eB, 0, none⟩) 1 1, .slice (some ⟨w2.heap.size, 0, none⟩) 1 1] 100)).heap[w2.heap.size + 1]? = some (.cells #[.pointer (some ⟨p, 0, none⟩), .int .i64 c.ss, .int .i64 (ev : Int), .int .u8 c.v, .int .i64 0, .slice (some ⟨eB, 0, none⟩) 1 1, .slice (some ⟨w2.heap.size, 0, none⟩) 1 1] 100 (0, 0)) := alloc_at_top _ _ (by simp)
  have hsz : ((w2.alloc (.cells #[.pointer (some ⟨x, 0, none⟩)] 95)).alloc (.cells #[.pointer (some ⟨p, 0, none⟩), .int .i64 c.ss, .int .i64 (ev : Int), .int .u8 c.v, .int .i64 0, .slice (some ⟨eB, 0, none⟩) 1 1, .slice (some ⟨w2.heap.size, 0, none⟩) 1 1] 100)).heap.size = w2.heap.size + 2 := by simp
  generalize (w2.alloc (.cells #[.pointer (some ⟨x, 0, none⟩)] 95)).alloc (.cells #[.pointer (some ⟨p, 0, none⟩), .int .i64 c.ss, .int .i64 (ev : Int), .int .u8 c.v, .int .i64 0, .slice (some ⟨eB, 0, none⟩) 1 1, .slice (some ⟨w2.heap.size, 0, none⟩) 1 1] 100) = W at *
  have hB : Below w1.heap.size w1 W := HB2.out.trans (hbn.mono hs2)
  have hfs := HF.out.size
  refine ⟨HD.out.pure hB, HF.out.trans (Fr.pure hB), w2.heap.size + 1, fun k => k = w2.heap.size + 1 ∨ k = w2.heap.size ∨ k = x ∨ sv.ownBlock = some k ∨ k = eB, ⟨.slice (some ⟨eB, 0, none⟩) 1 1, .slice (some ⟨w2.heap.size, 0, none⟩) 1 1, [(x, sv)], fun k => k = w2.heap.size + 1 ∨ k = w2.heap.size ∨ k = x ∨ sv.ownBlock = some k, ⟨?_, ?_, ?_, hrow, rfl, ?_, .inl rfl, ?_, ?_, ?_, ?_⟩, ?_, ?_, ?_⟩, ?_, rfl⟩
  · show W.heap[w2.heap.size + 1]? = _
    rw [hcell, HE0.out]
  · exact ⟨some ⟨eB, 0, none⟩, 1, rfl, .inr ⟨eB, 0, rfl, fun i hi => by
      obtain rfl : i = 0 := by simp at hi; omega
      exact ⟨(hB.cell (p := ⟨eB, 0, none⟩) hel).trans E0.out, (hB.cell (p := ⟨eB, 1, none⟩) hel).trans E1.out⟩⟩⟩
  · intro k hk
    obtain rfl : eB = k := Option.some.inj hk
    rintro (h | h | h | h)
    · omega
    · omega
    · have := HX.out; omega
    · have := HSV.out _ h; omega
  · intro i hi hi'
    obtain rfl : i = 0 := by simp at hi; omega
    have h9 := HIX.out.pure hbn
    show IsIx W x c.ev.toNat q (SgIx.next (q, [])) (SgIx.good (q, [])) sv (marks c.ev.toNat q [])
    rw [HE3.out]
    exact h9
  · intro k hk
    obtain rfl : w2.heap.size = k := Option.some.inj hk
    exact .inr (.inl rfl)
  · intro y hy
    rw [List.mem_singleton.1 hy]
    exact ⟨.inr (.inr (.inl rfl)), fun k hk => .inr (.inr (.inr hk))⟩
  · exact List.pairwise_singleton _ _
  · rintro k (h | h | h | h)
    · omega
    · omega
    · have := HIX.out.lt; omega
    · have := own_below HIX.out.own h; omega
  · rintro k (h | h | h | h)
    · exact .inl h
    · exact .inr (.inl h)
    · exact .inr (.inr (.inl h))
    · exact .inr (.inr (.inr (.inl h)))
  · intro k hk
    exact .inr (.inr (.inr (.inr (Option.some.inj hk).symm)))
  · rintro k (h | h | h | h | h)
    · omega
    · omega
    · have := HIX.out.lt; omega
    · have := own_below HIX.out.own h; omega
    · omega
  · rintro k (h | h | h | h | h)
    · omega
    · omega
    · have := HX.out; omega
    · have := HSV.out _ h; omega
    · omega
end Go.Proofs.YtcdjckdbcffgdaaGreatDoor

/- What rotate leaves in memory. -/
namespace Go.Proofs.YtcdjckdbcffgdaaGreatDoor
open Go.RowKit

theorem two_types {w : World} {k k' : Nat} {a b : Array Value} {t1 t2 : TypeId} {m1 m2 : Nat × Nat} (h : w.heap[k]? = some (.cells a t1 m1)) (h' : w.heap[k']? = some (.cells b t2 m2)) (ht : t1 ≠ t2) : k ≠ k' := by
  rintro rfl
  rw [h] at h'
  cases h'
  exact ht rfl
theorem row_block {w : World} {base n size k : Nat} {e : TypeId} {v : Value} {xs : List Value} (h : w.ownsRow base e size v n xs) (hk : v.ownBlock = some k) : ∃ cur, w.heap[k]? = some (.cells cur e (0, 0)) := by
  obtain ⟨_, ⟨rfl, _⟩ | ⟨g, cp, cur, rfl, _, hb, _⟩⟩ := h
  · cases hk
  · obtain rfl : g = k := Option.some.inj hk
    exact ⟨cur, hb⟩

set_option maxHeartbeats 1000000 in
theorem rot_post {w w1 w2 W2 w3 : World} {F S : Nat → Prop} {g p b : Nat} {st0 st1 : DkSt} {l : LgSt} {sv : Value} {rb cI : Nat} {xs : List (Nat × Value)} (H0 : LgEnv w F g p b st0 l) (HENV : LgEnv w1 F g p b st1 l) (HFR : DFr p b w w1)
    (HC : LgC w1 S g p l sv (.slice (some ⟨rb, 0, none⟩) l.ix.length cI) xs) (HSF : ∀ k, S k → F k) (HMAY : mayB l.gen (l.segs ++ [(l.gen, (l.next : Int))]) = true) {ev : Nat} (HEV3 : l.cfg.ev.toNat = ev) {eB cE : Nat} (heB : w.heap.size ≤ eB) (hel : eB < w1.heap.size)
    (HSV : SegsAt w1 (.slice (some ⟨eB, 0, none⟩) (l.segs.length + 1) cE) (l.segs ++ [(l.gen, (l.next : Int))])) {x : Nat} {xv : Value} (HB2 : Below w1.heap.size w1 w2) (HX : w1.heap.size ≤ x) (HXV : ∀ b, xv.ownBlock = some b → w1.heap.size ≤ b)
    (HIX : IsIx w2 x ev l.next (SgIx.next (l.next, [])) (SgIx.good (l.next, [])) xv (marks ev l.next [])) (HW2 : Below w2.heap.size w2 W2) (HW2s : W2.heap.size = w2.heap.size + 1) {gg cap : Nat}
    (HO3 : w3.ownsRow 0 95 1 (.slice (some ⟨gg, 0, none⟩) (l.ix.length + 1) cap) (l.ix.length + 1) (xs.map ixPtr ++ [.pointer (some ⟨x, 0, none⟩)])) (HGR3 : W2.grownBy w3 (some rb)) (HAT3 : some rb = some gg ∨ gg = w2.heap.size + 1) (hlt3 : gg < w3.heap.size)
    (HG3 : w3.heap[g]? = some (.cells #[.pointer (some ⟨p, 0, none⟩), .int .i64 l.cfg.ss, .int .i64 l.cfg.ev, .int .u8 l.cfg.v, .int .i64 l.gen, sv, .slice (some ⟨rb, 0, none⟩) l.ix.length cI] 100 (0, 0))) :
    LgLeft w F g p b (st1, l.turn) (((w3.setCell ⟨g, 4, none⟩ (.int .i64 l.gen)).setCell ⟨g, 5, none⟩ (.slice (some ⟨eB, 0, none⟩) (l.segs.length + 1) cE)).setCell ⟨g, 6, none⟩ (.slice (some ⟨gg, 0, none⟩) (l.ix.length + 1) cap)) := by
  obtain ⟨cur, hcur⟩ := row_block HC.row (show _ = some rb from rfl)
  have hgrb : g ≠ rb := two_types HC.cell hcur (by decide)
  have hrbF : F rb := HSF rb (HC.siv rb rfl)
  have hgF : F g := HSF g HC.sg
  have hrbw := H0.lt rb hrbF
  have hgw := H0.lt g hgF
  have hs1 := HFR.size
  have hs2 := HB2.size
  have hs3 := HGR3.size
  have hpw := H0.dk.lt
  have hbw := H0.dk.own.lt
  have hPW := pow_lt H0.pow
  have hxl := HC.len
  have hgg : gg < w.heap.size ∧ F gg ∨ w1.heap.size < gg := by
    rcases HAT3 with h | h
    · obtain rfl := Option.some.inj h; exact .inl ⟨hrbw, hrbF⟩
    · exact .inr (by omega)
  have hggne : gg ≠ g := by
    rcases HAT3 with h | h
    · obtain rfl := Option.some.inj h; exact fun e => hgrb e.symm
    · omega
  have F2 : Fr (fun k => k = rb ∨ k = g) w2 (((w3.setCell ⟨g, 4, none⟩ (.int .i64 l.gen)).setCell ⟨g, 5, none⟩ (.slice (some ⟨eB, 0, none⟩) (l.segs.length + 1) cE)).setCell ⟨g, 6, none⟩ (.slice (some ⟨gg, 0, none⟩) (l.ix.length + 1) cap)) :=
    ((((Fr.pure HW2).trans ((grown_fr HGR3).mono fun k _ e => .inl (Option.some.inj e).symm)).setCell ⟨g, 4, none⟩ (fun _ => .inr rfl) _).setCell ⟨g, 5, none⟩ (fun _ => .inr rfl) _).setCell ⟨g, 6, none⟩ (fun _ => .inr rfl) _
  have F1 := (Fr.pure (S := fun k => k = rb ∨ k = g) HB2).trans F2
  have hcell : (((w3.setCell ⟨g, 4, none⟩ (.int .i64 l.gen)).setCell ⟨g, 5, none⟩ (.slice (some ⟨eB, 0, none⟩) (l.segs.length + 1) cE)).setCell ⟨g, 6, none⟩ (.slice (some ⟨gg, 0, none⟩) (l.ix.length + 1) cap)).heap[g]? = some (.cells #[.pointer (some ⟨p, 0, none⟩), .int .i64 l.cfg.ss, .int .i64 l.cfg.ev, .int .u8 l.cfg.v, .int .i64 l.gen, .slice (some ⟨eB, 0, none⟩) (l.segs.length + 1) cE, .slice (some ⟨gg, 0, none⟩) (l.ix.length + 1) cap] 100 (0, 0)) :=
    (heap_setCell_same _ g 6 _ _ _ (heap_setCell_same _ g 5 _ _ _ (heap_setCell_same w3 g 4 _ _ _ HG3))).trans rfl
  have hneg : (Value.slice (some ⟨gg, 0, none⟩) (l.ix.length + 1) cap).ownBlock ≠ some g := fun e => hggne (Option.some.inj e)
  have hrow := ownsRow_setCell_other (a := ⟨g, 6, none⟩) (ownsRow_setCell_other (a := ⟨g, 5, none⟩) (ownsRow_setCell_other (a := ⟨g, 4, none⟩) HO3 hneg (.int .i64 l.gen)) hneg (.slice (some ⟨eB, 0, none⟩) (l.segs.length + 1) cE)) hneg (.slice (some ⟨gg, 0, none⟩) (l.ix.length + 1) cap)
  have hsz : w3.heap.size ≤ (((w3.setCell ⟨g, 4, none⟩ (.int .i64 l.gen)).setCell ⟨g, 5, none⟩ (.slice (some ⟨eB, 0, none⟩) (l.segs.length + 1) cE)).setCell ⟨g, 6, none⟩ (.slice (some ⟨gg, 0, none⟩) (l.ix.length + 1) cap)).heap.size := by simp
  generalize ((w3.setCell ⟨g, 4, none⟩ (.int .i64 l.gen)).setCell ⟨g, 5, none⟩ (.slice (some ⟨eB, 0, none⟩) (l.segs.length + 1) cE)).setCell ⟨g, 6, none⟩ (.slice (some ⟨gg, 0, none⟩) (l.ix.length + 1) cap) = W at *
  have hsW := F1.size
  have hixl := HIX.lt
  have hxvl := fun k (h : xv.ownBlock = some k) => own_below HIX.own h
  have hs2W := F2.size
  have hnew : ∀ k, (F k ∨ k = x ∨ xv.ownBlock = some k ∨ k = gg ∨ k = eB) → F k ∨ w.heap.size ≤ k := by
    rintro k (h | h | h | h | h)
    · exact .inl h
    · exact .inr (by omega)
    · have := HXV k h; exact .inr (by omega)
    · rcases hgg with h2 | h2
      · rw [h]; exact .inl h2.2
      · exact .inr (by omega)
    · exact .inr (by omega)
  have hltW : ∀ k, (F k ∨ k = x ∨ xv.ownBlock = some k ∨ k = gg ∨ k = eB) → k < W.heap.size := by
    rintro k (h | h | h | h | h)
    · have := H0.lt k h; omega
    · omega
    · have := hxvl k h; omega
    · omega
    · omega
  refine ⟨fun k => F k ∨ k = x ∨ xv.ownBlock = some k ∨ k = gg ∨ k = eB, ⟨⟨.slice (some ⟨eB, 0, none⟩) (l.segs.length + 1) cE, .slice (some ⟨gg, 0, none⟩) (l.ix.length + 1) cap, xs ++ [(x, xv)], fun k => S k ∨ k = x ∨ xv.ownBlock = some k ∨ k = gg, ⟨hcell, ?_, ?_, ?_, ?_, ?_, .inl HC.sg, ?_, ?_, ?_, ?_⟩, ?_, ?_, hltW⟩, ?_, ?_, HENV.ok.turn HMAY, ?_, H0.pw⟩, ?_, hnew⟩
  · exact HSV.kept F1 fun k hk hT => by
      obtain rfl : eB = k := Option.some.inj hk
      omega
  · intro k hk
    obtain rfl : eB = k := Option.some.inj hk
    rintro (h | h | h | h)
    · have := H0.lt _ (HSF _ h); omega
    · omega
    · have := HXV _ h; omega
    · omega
  · have e : (xs ++ [(x, xv)]).map ixPtr = xs.map ixPtr ++ [.pointer (some ⟨x, 0, none⟩)] := by simp [ixPtr]
    have e2 : l.turn.ix.length = l.ix.length + 1 := by unfold LgSt.turn; simp
    rw [e, e2]; exact hrow
  · unfold LgSt.turn; simp [hxl]
  · intro i hi hi'
    have e2 : l.turn.ix = l.ix ++ [(l.next, [])] := rfl
    have eev : l.turn.ev = l.ev := rfl
    by_cases hc : i < xs.length
    · have h1 := HC.ixs i hc (by omega)
      have h2 : (xs ++ [(x, xv)])[i] = xs[i] := List.getElem_append_left hc
      have h3 : l.turn.ix[i] = l.ix[i]'(by omega) := (List.getElem_of_eq e2 hi').trans (List.getElem_append_left (by omega))
      rw [h2, h3, eev]
      refine h1.kept F1 ?_ ?_
      · rintro (h | h)
        · exact two_types h1.cell hcur (by decide) h
        · exact two_types h1.cell HC.cell (by decide) h
      · rintro k hk (h | h)
        · obtain ⟨c9, h9⟩ := row_block h1.own hk; exact two_types h9 hcur (by decide) h
        · obtain ⟨c9, h9⟩ := row_block h1.own hk; exact two_types h9 HC.cell (by decide) h
    · have hi9 : i = xs.length := by simp at hi; omega
      have h2 : (xs ++ [(x, xv)])[i] = (x, xv) := by subst hi9; simp
      have h3 : l.turn.ix[i] = (l.next, []) := (List.getElem_of_eq e2 hi').trans (by rw [List.getElem_append_right (by omega)]; simp)
      rw [h2, h3, eev]
      unfold LgSt.ev
      rw [HEV3]
      refine HIX.kept F2 ?_ ?_
      · rintro (h | h) <;> omega
      · rintro k hk (h | h) <;> (have := HXV k hk; omega)
  · intro k hk
    exact .inr (.inr (.inr (Option.some.inj hk).symm))
  · intro y hy
    rcases List.mem_append.1 hy with h | h
    · exact ⟨.inl (HC.sx y h).1, fun k hk => .inl ((HC.sx y h).2 k hk)⟩
    · rw [List.mem_singleton.1 h]
      exact ⟨.inr (.inl rfl), fun k hk => .inr (.inr (.inl hk))⟩
  · refine List.pairwise_append.2 ⟨HC.apart, List.pairwise_singleton _ _, fun y hy z hz => ?_⟩
    rw [List.mem_singleton.1 hz]
    have h1 := HC.lt _ (HC.sx y hy).1
    refine ⟨by show y.1 ≠ x; omega, fun k hk e => ?_⟩
    have h2 := HC.lt _ ((HC.sx y hy).2 k hk)
    have h3 := HXV k e
    omega
  · rintro k (h | h | h | h)
    · have := HC.lt k h; omega
    · omega
    · have := hxvl k h; omega
    · omega
  · rintro k (h | h | h | h)
    · exact .inl (HSF k h)
    · exact .inr (.inl h)
    · exact .inr (.inr (.inl h))
    · exact .inr (.inr (.inr (.inl h)))
  · intro k hk
    exact .inr (.inr (.inr (.inr (Option.some.inj hk).symm)))
  · have h1 := H0.far rb hrbF
    have h2 := H0.far g hgF
    exact HENV.dk.kept F1 (fun h => h.elim (fun e => h1.1 e.symm) (fun e => h2.1 e.symm)) (fun h => h.elim (fun e => h1.2.1 e.symm) (fun e => h2.2.1 e.symm))
  · have h1 := H0.far rb hrbF
    have h2 := H0.far g hgF
    exact F1.pow HENV.pow (fun h => h.elim (fun e => h1.2.2 e.symm) (fun e => h2.2.2 e.symm))
  · intro k hk
    rcases hnew k hk with h | h
    · exact H0.far k h
    · have h1 : PW < w.heap.size := hPW
      exact ⟨by omega, by omega, by omega⟩
  · refine (HFR.mono fun k _ h => .inr h).trans (F1.mono fun k _ h => .inl ?_)
    rcases h with h | h
    · rw [h]; exact hrbF
    · rw [h]; exact hgF
end Go.Proofs.YtcdjckdbcffgdaaGreatDoor
