/- A log in memory; the walks of open, Next, First. -/
import Derived.Test.YtcdjckdbcffgdaaGreatDoorMAq
import Derived.Test.YtcdjckdbcffgdaaGreatDoorMAu
import Derived.Test.YtcdjckdbcffgdaaGreatDoorMAv
import Derived.Test.YtcdjckdbcffgdaaGreatDoorMCf
import Derived.Test.YtcdjckdbcffgdaaGreatDoorMCc
import Derived.Deep.RegionHeld3
import Derived.Test.YtcdjckdbcffgdaaGreatDoorMkWi
namespace Go.Proofs.YtcdjckdbcffgdaaGreatDoor
open Go.RowKit

def LgSt.ev (l : LgSt) : Nat := l.cfg.ev.toNat
def ixPtr (x : Nat × Value) : Value := .pointer (some ⟨x.1, 0, none⟩)
/-- A log lies in block g; all that its acts write to is in S. -/
structure LgC (w : World) (S : Nat → Prop) (g p : Nat) (l : LgSt) (sv iv : Value) (xs : List (Nat × Value)) : Prop where
  cell : w.heap[g]? = some (.cells #[.pointer (some ⟨p, 0, none⟩), .int .i64 l.cfg.ss, .int .i64 l.cfg.ev, .int .u8 l.cfg.v, .int .i64 l.gen, sv, iv] 100 (0, 0))
  segs : SegsAt w sv l.segs
  sfar : ∀ k, sv.ownBlock = some k → ¬ S k
  row : w.ownsRow 0 95 1 iv l.ix.length (xs.map ixPtr)
  len : xs.length = l.ix.length
  ixs : ∀ i (h : i < xs.length) (h' : i < l.ix.length), IsIx w xs[i].1 l.ev l.ix[i].1 l.ix[i].next l.ix[i].good xs[i].2 (marks l.ev l.ix[i].1 l.ix[i].2)
  sg : S g
  siv : ∀ k, iv.ownBlock = some k → S k
  sx : ∀ x ∈ xs, S x.1 ∧ ∀ k, x.2.ownBlock = some k → S k
  apart : xs.Pairwise fun x y => x.1 ≠ y.1 ∧ (∀ k, x.2.ownBlock = some k → y.2.ownBlock ≠ some k)
  lt : ∀ k, S k → k < w.heap.size
/-- The same; F is all that it consists of. -/
def IsLg (w : World) (F : Nat → Prop) (g p : Nat) (l : LgSt) : Prop := ∃ sv iv xs S, LgC w S g p l sv iv xs ∧ (∀ k, S k → F k) ∧ (∀ k, sv.ownBlock = some k → F k) ∧ ∀ k, F k → k < w.heap.size

theorem LgC.gl {w : World} {S : Nat → Prop} {g p : Nat} {l : LgSt} {sv iv : Value} {xs : List (Nat × Value)} (h : LgC w S g p l sv iv xs) : g < w.heap.size := lt_of_block h.cell
theorem LgC.kept {T S : Nat → Prop} {w w' : World} {g p : Nat} {l : LgSt} {sv iv : Value} {xs : List (Nat × Value)} (h : LgC w S g p l sv iv xs) (hf : Fr T w w') (h1 : ∀ k, S k → ¬ T k) (h2 : ∀ k, sv.ownBlock = some k → ¬ T k) : LgC w' S g p l sv iv xs where
  cell := hf.heapAt h.cell (h1 _ h.sg)
  segs := h.segs.kept hf h2
  sfar := h.sfar
  row := hf.ownsRow h.row fun k hk => h1 k (h.siv k hk)
  len := h.len
  ixs := fun i hi h' => (h.ixs i hi h').kept hf (h1 _ (h.sx _ (List.getElem_mem hi)).1) fun k hk => h1 k ((h.sx _ (List.getElem_mem hi)).2 k hk)
  sg := h.sg
  siv := h.siv
  sx := h.sx
  apart := h.apart
  lt := fun k hk => Nat.lt_of_lt_of_le (h.lt k hk) hf.size
theorem LgC.pure {S : Nat → Prop} {w w' : World} {g p : Nat} {l : LgSt} {sv iv : Value} {xs : List (Nat × Value)} (h : LgC w S g p l sv iv xs) (hb : Below w.heap.size w w') : LgC w' S g p l sv iv xs := h.kept (Fr.pure (S := fun _ => False) hb) (fun _ _ hf => hf) (fun _ _ hf => hf)
theorem IsLg.kept {T F : Nat → Prop} {w w' : World} {g p : Nat} {l : LgSt} (h : IsLg w F g p l) (hf : Fr T w w') (ht : ∀ k, F k → ¬ T k) : IsLg w' F g p l := by
  obtain ⟨sv, iv, xs, S, h, h1, h2, h3⟩ := h
  exact ⟨sv, iv, xs, S, h.kept hf (fun k hk => ht k (h1 k hk)) (fun k hk => ht k (h2 k hk)), h1, h2, fun k hk => Nat.lt_of_lt_of_le (h3 k hk) hf.size⟩
theorem IsLg.pure {F : Nat → Prop} {w w' : World} {g p : Nat} {l : LgSt} (h : IsLg w F g p l) (hb : Below w.heap.size w w') : IsLg w' F g p l := h.kept (Fr.pure (S := fun _ => False) hb) (fun _ _ hf => hf)
theorem LgC.cs {w : World} {S : Nat → Prop} {g p : Nat} {l : LgSt} {sv iv : Value} {xs : List (Nat × Value)} (h : LgC w S g p l sv iv xs) :
    w.cell? ⟨g, 0, none⟩ = some (.pointer (some ⟨p, 0, none⟩)) ∧ w.cell? ⟨g, 1, none⟩ = some (.int .i64 l.cfg.ss) ∧ w.cell? ⟨g, 2, none⟩ = some (.int .i64 l.cfg.ev) ∧ w.cell? ⟨g, 3, none⟩ = some (.int .u8 l.cfg.v) ∧ w.cell? ⟨g, 4, none⟩ = some (.int .i64 l.gen) ∧ w.cell? ⟨g, 5, none⟩ = some sv ∧ w.cell? ⟨g, 6, none⟩ = some iv :=
  ⟨(cell_of_row _ _ _ _ _ _ h.cell).trans rfl, (cell_of_row _ _ _ _ _ _ h.cell).trans rfl, (cell_of_row _ _ _ _ _ _ h.cell).trans rfl, (cell_of_row _ _ _ _ _ _ h.cell).trans rfl, (cell_of_row _ _ _ _ _ _ h.cell).trans rfl, (cell_of_row _ _ _ _ _ _ h.cell).trans rfl, (cell_of_row _ _ _ _ _ _ h.cell).trans rfl⟩

/-- The pointer to index i. -/
theorem LgC.ptr {w : World} {S : Nat → Prop} {g p : Nat} {l : LgSt} {sv iv : Value} {xs : List (Nat × Value)} (h : LgC w S g p l sv iv xs) (i : Nat) (hi : i < xs.length) : ∃ rb c, iv = .slice (some ⟨rb, 0, none⟩) xs.length c ∧ w.cell? ⟨rb, i, none⟩ = some (ixPtr xs[i]) := by
  obtain ⟨_, ⟨_, h0⟩ | ⟨rb, c, cur, e1, _, hb, hc1, _, hc3, hc4⟩⟩ := h.row
  · have := h.len; omega
  · rw [← h.len] at e1 hc4 hc1
    refine ⟨rb, c, e1, ?_⟩
    rw [cell_of_row _ _ _ _ _ _ hb]
    have hh : (cur.toList.take (xs.length * 1))[i]? = (xs.map ixPtr)[i]? := by rw [hc4]
    rw [List.getElem?_take_of_lt (by omega), List.getElem?_map, List.getElem?_eq_getElem hi] at hh
    simpa using hh

set_option maxRecDepth 100000 in
set_option maxHeartbeats 1000000 in
theorem lg_open (w : World) (S : Nat → Prop) (g p : Nat) (l : LgSt) (sv iv : Value) (xs : List (Nat × Value)) (h : LgC w S g p l sv iv xs) (h0 : 0 < xs.length) (hb : xs.length ≤ 1000000) :
    Calls Tryz.prog 50 #[.pointer (some ⟨g, 0, none⟩)] w fun e w' => e = .returned (ixPtr xs[xs.length - 1]) ∧ Below w.heap.size w w' := by
  obtain ⟨rb, c, rfl, hc⟩ := h.ptr (xs.length - 1) (by omega)
  obtain ⟨c0, c1, c2, c3, c4, c5, c6⟩ := h.cs
  have hcast : ((xs.length : Nat) : Int) - 1 = ((xs.length - 1 : Nat) : Int) := by omega
  generalize xs[xs.length - 1] = x at *
  have hk : xs.length - 1 < xs.length := by omega
  generalize xs.length - 1 = k at *
  generalize xs.length = n at *
  clear h c0 c1 c2 c3 c4 c5 h0
  unfold ixPtr at *
  go_enter Tryz.func50, Tryz.ntmps50
  go_wp2
  go_quiet (fail)
  go_wp2
  go_ret
  exact ⟨rfl, ⟨rfl, rfl, rfl, Nat.le_refl _, fun _ _ => rfl⟩⟩

theorem LgC.last {w : World} {S : Nat → Prop} {g p : Nat} {l : LgSt} {sv iv : Value} {xs : List (Nat × Value)} (h : LgC w S g p l sv iv xs) (h0 : 0 < xs.length) :
    IsIx w xs[xs.length - 1].1 l.ev l.lastIx.1 l.next l.lastIx.good xs[xs.length - 1].2 (marks l.ev l.lastIx.1 l.lastIx.2) := by
  have hl := h.len
  have := h.ixs (xs.length - 1) (by omega) (by omega)
  have e : l.lastIx = l.ix[xs.length - 1]'(by omega) := by
    unfold LgSt.lastIx
    rw [List.getLast?_eq_getElem?, show l.ix.length - 1 = xs.length - 1 from by omega, List.getElem?_eq_getElem (by omega)]; rfl
  unfold LgSt.next
  rw [e]; exact this

set_option maxRecDepth 100000 in
set_option maxHeartbeats 1000000 in
theorem lg_next (w : World) (S : Nat → Prop) (g p : Nat) (l : LgSt) (h : IsLg w S g p l) (h0 : 0 < l.ix.length) (hb : l.ix.length ≤ 1000000) :
    Calls Tryz.prog 12 #[.pointer (some ⟨g, 0, none⟩)] w fun e w' => e = .returned (.int .i64 (l.next : Int)) ∧ Below w.heap.size w w' := by
  obtain ⟨sv, iv, xs, S1, h, _, _, _⟩ := h
  have hl := h.len
  have HX := Lib.hid (h.last (by omega))
  have HO := Lib.hid (lg_open w S1 g p l sv iv xs h (by omega) (by omega))
  clear h
  generalize xs[xs.length - 1] = x at *
  clear hl
  go_enter Tryz.func12, Tryz.ntmps12
  go_wp2_with fail
  refine HO.out.mono ?_
  rintro e w1 ⟨rfl, hb1⟩
  have HB := Lib.hid hb1
  unfold ixPtr
  clear hb1
  go_wp2_with fail
  refine (ix_next _ _ _ _ _ _ _ _ (HX.out.pure HB.out)).mono ?_
  rintro e w2 ⟨rfl, rfl⟩
  go_wp2
  go_ret
  exact ⟨rfl, HB.out⟩

set_option maxRecDepth 100000 in
set_option maxHeartbeats 1000000 in
theorem lg_first (w : World) (S : Nat → Prop) (g p : Nat) (l : LgSt) (h : IsLg w S g p l) (h0 : 0 < l.segs.length) :
    Calls Tryz.prog 11 #[.pointer (some ⟨g, 0, none⟩)] w fun e w' => e = .returned (.int .i64 l.first) ∧ w = w' := by
  obtain ⟨sv, iv, xs, S1, h, _, _, _⟩ := h
  obtain ⟨a, c, rfl⟩ := h.segs.shape
  obtain ⟨b, o, rfl, k1, k2, _⟩ := h.segs.at 0 h0
  obtain ⟨c0, c1, c2, c3, c4, c5, c6⟩ := h.cs
  have e1 : l.segs[0].2 = l.first := by unfold LgSt.first; rw [List.head?_eq_getElem?, List.getElem?_eq_getElem h0]; rfl
  rw [e1] at k2
  generalize l.first = F at *
  clear h k1 e1 c0 c1 c2 c3 c4 c6
  simp only [Nat.zero_mul, Nat.add_zero] at k2
  generalize l.segs.length = n at *
  go_enter Tryz.func11, Tryz.ntmps11
  go_wp2
  go_ret
  exact ⟨rfl, rfl⟩

theorem segs_last {l : LgSt} (h0 : 0 < l.segs.length) : segName (l.segs[l.segs.length - 1]'(by omega)).1 (l.segs[l.segs.length - 1]'(by omega)).2 = l.name := by
  unfold LgSt.name
  rw [List.getLast?_eq_getElem?, List.getElem?_eq_getElem (by omega)]; rfl

set_option maxRecDepth 100000 in
set_option maxHeartbeats 1000000 in
theorem lg_name (w : World) (hp : Pow w) (S : Nat → Prop) (g p : Nat) (l : LgSt) (h : IsLg w S g p l) (h0 : 0 < l.segs.length) (hb : l.segs.length ≤ 1000000) :
    Calls Tryz.prog 58 #[.pointer (some ⟨g, 0, none⟩)] w fun e w' => (∃ r : ByteArray, r.data.toList = l.name ∧ e = .returned (.string r)) ∧ Below w.heap.size w w' := by
  obtain ⟨sv, iv, xs, S1, h, _, _, _⟩ := h
  obtain ⟨a, c, rfl⟩ := h.segs.shape
  obtain ⟨b, o, rfl, k1, k2, hbl⟩ := h.segs.at (l.segs.length - 1) (by omega)
  obtain ⟨c0, c1, c2, c3, c4, c5, c6⟩ := h.cs
  have hgl := h.gl
  have HN := Lib.hid (segs_last h0)
  have HP := Lib.hid hp
  have hcast : ((l.segs.length : Nat) : Int) - 1 = ((l.segs.length - 1 : Nat) : Int) := by omega
  have hk : l.segs.length - 1 < l.segs.length := by omega
  generalize l.segs[l.segs.length - 1].1 = G at *
  generalize l.segs[l.segs.length - 1].2 = F at *
  generalize l.segs.length - 1 = k at *
  generalize l.segs.length = n at *
  generalize l.name = N at *
  clear h c0 c1 c2 c3 c4 c6 h0 hp
  go_enter Tryz.func58, Tryz.ntmps58
  go_wp2
  go_region
  go_wp2_with fail
  have hal : Below w.heap.size w (w.alloc (.cells #[.int .i64 G, .int .i64 F] 76)).drew := ((Below.refl _ _).alloc (Nat.le_refl _) _).trans ⟨rfl, rfl, rfl, Nat.le_refl _, fun _ _ => rfl⟩
  refine (name_any _ (below_pow hal HP.out) G F).mono ?_
  rintro e w2 ⟨⟨r, hr, rfl⟩, hb2⟩
  have HR := Lib.hid hr
  have HB := Lib.hid (hal.trans (hb2.mono hal.size))
  clear hr hb2 hal
  go_wp2
  go_ret
  exact ⟨⟨r, HR.out.trans HN.out, rfl⟩, HB.out⟩
end Go.Proofs.YtcdjckdbcffgdaaGreatDoor

/- The walks of between, MayConfig, Sync. -/
namespace Go.Proofs.YtcdjckdbcffgdaaGreatDoor
open Go.RowKit Go.Sort

set_option maxHeartbeats 400000 in
theorem between_any (w : World) (n lo hi : Int) :
    Calls Tryz.prog 67 #[.int .i64 n, .int .i64 lo, .int .i64 hi] w fun e w' => e = .returned (.bool (decide (lo ≤ n) && decide (n ≤ hi))) ∧ w = w' := by
  by_cases h : lo ≤ n
  · have hd : decide (lo ≤ n) = true := by simpa using h
    have HD := Lib.hid hd
    clear h
    go_enter Tryz.func67, Tryz.ntmps67
    go_wp2
    go_ret
    exact ⟨ret_bool (by rw [HD.out]; rfl), rfl⟩
  · have hd : decide (lo ≤ n) = false := by simpa using h
    have HD := Lib.hid hd
    clear h
    go_enter Tryz.func67, Tryz.ntmps67
    go_wp2
    go_ret
    exact ⟨ret_bool (by rw [HD.out]; rfl), rfl⟩

set_option maxRecDepth 100000 in
set_option maxHeartbeats 1000000 in
theorem mayConfig_any (w : World) (c : Cfg) (h0 : 0 ≤ c.v) (h1 : c.v ≤ 255) :
    Calls Tryz.prog 20 #[.agg #[.int .i64 c.ss, .int .i64 c.ev, .int .u8 c.v]] w fun e w' => e = .returned (.bool (cfgOk c)) ∧ Below w.heap.size w w' := by
  have hw : IntKind.i64.wrap c.v = c.v := IntWalk.i64_in _ (by omega)
  have hb := (Below.refl w.heap.size w).alloc (Nat.le_refl _) (.cells #[.int .i64 c.ss, .int .i64 c.ev, .int .u8 c.v] 23)
  have HB := Lib.hid hb
  obtain ⟨ss, ev, v⟩ := c
  cases ha : (decide (64 ≤ ss) && decide (ss ≤ 65536))
  · have HA := Lib.hid ha
    clear ha hb
    go_enter Tryz.func20, Tryz.ntmps20
    go_wp2_with (go_at_call 67; refine (between_any _ _ _ _).mono ?_; rintro e w' ⟨rfl, rfl⟩; rw [HA.out])
    go_ret
    exact ⟨ret_bool (by unfold cfgOk; rw [HA.out]; rfl), HB.out⟩
  · have HA := Lib.hid ha
    clear ha hb
    cases hc : (decide (1 ≤ ev) && decide (ev ≤ 64))
    · have HC := Lib.hid hc
      clear hc
      go_enter Tryz.func20, Tryz.ntmps20
      go_wp2_with (go_at_call 67; refine (between_any _ _ _ _).mono ?_; rintro e w' ⟨rfl, rfl⟩; first | rw [HA.out] | rw [HC.out])
      go_ret
      exact ⟨ret_bool (by unfold cfgOk; rw [HA.out, HC.out]; rfl), HB.out⟩
    · have HC := Lib.hid hc
      clear hc
      cases hv : (decide (1 ≤ v) && decide (v ≤ 3))
      all_goals
        have HV := Lib.hid hv
        clear hv
        go_enter Tryz.func20, Tryz.ntmps20
        go_wp2_with (go_at_call 67; refine (between_any _ _ _ _).mono ?_; rintro e w' ⟨rfl, rfl⟩; first | rw [HA.out] | rw [HC.out] | rw [HV.out])
        go_ret
        exact ⟨ret_bool (by unfold cfgOk; rw [HA.out, HC.out, HV.out]; rfl), HB.out⟩

theorem LgC.nep {w : World} {S : Nat → Prop} {g p q b : Nat} {st : DkSt} {l : LgSt} {sv iv : Value} {xs : List (Nat × Value)} (h : LgC w S g p l sv iv xs) (hd : IsDk w q b st) : g ≠ q := by
  intro e
  have h1 := h.cell
  rw [e, hd.cell] at h1
  simp at h1
theorem LgC.neb {w : World} {S : Nat → Prop} {g p q b : Nat} {st : DkSt} {l : LgSt} {sv iv : Value} {xs : List (Nat × Value)} (h : LgC w S g p l sv iv xs) (hd : IsDk w q b st) : g ≠ b := by
  have h1 := h.cell
  exact hd.off (q := g) (o := 0) ((cell_of_row _ _ _ _ _ _ h1).trans rfl)

set_option maxRecDepth 100000 in
set_option maxHeartbeats 1000000 in
theorem lg_sync (w : World) (hp : Pow w) (S : Nat → Prop) (g p b : Nat) (st : DkSt) (l : LgSt) (h : IsLg w S g p l) (hd : IsDk w p b st) (h0 : 0 < l.segs.length) (hb : l.segs.length ≤ 1000000) (hln : l.name.length ≤ 100) :
    Calls Tryz.prog 27 #[.pointer (some ⟨g, 0, none⟩)] w fun e w' => OpPost p b (lgSync st l) w e w' := by
  have HN := Lib.hid (fun W (hb : Below w.heap.size w W) => lg_name W (below_pow hb hp) S g p l (h.pure hb) h0 (by omega))
  obtain ⟨sv, iv, xs, S1, h, _, _, _⟩ := h
  obtain ⟨c0, _, _, _, _, _, _⟩ := h.cs
  have hgl := h.gl
  have hgp := h.nep hd
  have hgb := h.neb hd
  have HD := Lib.hid hd
  have HLN := Lib.hid hln
  clear h hd hp h0 hb hln
  go_enter Tryz.func27, Tryz.ntmps27
  go_wp2_with fail
  go_region_held3 (fun w' => w'.cell? ⟨g, 0, none⟩ = some (.pointer (some ⟨p, 0, none⟩))) (first | exact c0 | exact c9 | exact c8 | go_keep) (first
    | (go_at_call 58; refine (HN.out _ (by first | exact Below.refl _ _ | exact (Below.refl _ _).drew)).mono ?_; rintro e w1 ⟨⟨r, hr, rfl⟩, hb1⟩; have HR := Lib.hid hr; have HRL := Lib.hid (show r.size ≤ maxLen by have := size_of_list hr; have := HLN.out; unfold maxLen; omega); have HB1 := Lib.hid ((show Below w.heap.size w _ by first | exact Below.refl _ _ | exact (Below.refl _ _).drew).trans hb1); have c9 := (hb1.cell (p := ⟨g, 0, none⟩) hgl).trans c0; clear hr hb1)
    | (go_at_call 74; refine (dk_sync _ p b st (HD.out.pure HB1.out) r HRL.out).mono ?_; rintro e w2 ⟨rfl, hd2, hf2⟩; have HD2 := Lib.hid hd2; have HF2 := Lib.hid (And.intro hf2 HR.out); have c8 := IsDk.ofD hf2 c9 hgp hgb; clear hd2 hf2))
  go_wp2
  go_ret
  unfold lgSync
  rw [← HF2.out.2]
  exact ⟨rfl, HD2.out, (Fr.pure HB1.out).trans HF2.out.1⟩
end Go.Proofs.YtcdjckdbcffgdaaGreatDoor

/- The walk of room. -/
namespace Go.Proofs.YtcdjckdbcffgdaaGreatDoor
open Go.RowKit Go.Sort

theorem size_pure (w : World) (n : Int) (h0 : 1 ≤ n) (h1 : n ≤ 64) : Calls Tryz.prog 105 #[.int .i64 n] w fun e w' => e = .returned (.int .i64 (18 + 16 * n)) ∧ Below w.heap.size w w' := by
  have e1 : sizeB n = 18 + 16 * n := by unfold sizeB; rw [if_neg (by omega)]
  refine (size_any w n (by omega) (by omega)).mono ?_
  rintro e w' ⟨rfl, rfl⟩
  rw [e1]; exact ⟨rfl, Below.refl _ _⟩

set_option maxRecDepth 100000 in
set_option maxHeartbeats 2000000 in
theorem lg_room (w : World) (S : Nat → Prop) (g p b : Nat) (st : DkSt) (l : LgSt) (h : IsLg w S g p l) (hd : IsDk w p b st) (h0 : 0 < l.segs.length) (hb : l.segs.length ≤ 64) (x : ByteArray) (hx0 : 1 ≤ x.size) (hx : x.size ≤ 4096) (turn : Bool) :
    Calls Tryz.prog 55 #[.pointer (some ⟨g, 0, none⟩), .string x, .bool turn] w fun e w' => e = .returned (.int .i64 (lgRoom st l x.size turn)) ∧ Below w.heap.size w w' := by
  obtain ⟨sv, iv, xs, S1, h, _, _, _⟩ := h
  obtain ⟨a, c, rfl⟩ := h.segs.shape
  obtain ⟨c0, _, _, _, _, c5, _⟩ := h.cs
  have hgl := h.gl
  have H := Lib.hid h
  have HD := Lib.hid hd
  have hul := used_le hd.ok.fs
  have hfew := hd.ok.fs.few
  have hcap0 := hd.ok.cap0
  have hcap1 := hd.ok.cap1
  have hfit := hd.ok.fits
  have HS := Lib.hid (show frSize (x.size : Int) = 16 + (x.size : Int) by unfold frSize payB; rw [if_pos (by simp; omega)])
  clear h hd
  go_enter Tryz.func55, Tryz.ntmps55
  go_wp2_with fail
  refine (dk_room _ p b st HD.out).mono ?_
  rintro e w1 ⟨rfl, hb1⟩
  have HB := Lib.hid hb1
  have d5 := (hb1.cell (p := ⟨g, 5, none⟩) hgl).trans c5
  clear hb1 c5 c0
  cases hdk : st.dark
  · have HDK := Lib.hid hdk
    have hroom : dkRoom st = .tuple #[.int .i64 (st.cap - (used st.fs : Int)), .int .i64 (64 - (st.fs.length : Int)), .int .i64 0] := by unfold dkRoom; rw [hdk]; rfl
    rw [hroom]
    clear hdk hroom
    go_wp2_with fail
    refine (frsize_any _ _).mono ?_
    rintro e w2 ⟨rfl, rfl⟩
    rw [HS.out]
    cases turn
    · go_wp2
      all_goals (go_ret; exact ⟨ret_int (by unfold lgRoom lgNeed; rw [HDK.out]; simp only [Bool.false_eq_true, if_false]; split <;> first | rfl | (exfalso; omega)), HB.out⟩)
    · go_wp2_with fail
      have hm : (l.segs.length : Int) ≤ 64 := by omega
      have v1 : IntKind.i64.wrap (16 + (x.size : Int) + 16) = 16 + (x.size : Int) + 16 := IntWalk.i64_in _ (by omega)
      have v2 : IntKind.i64.wrap (16 + (x.size : Int) + 16 + 34) = 16 + (x.size : Int) + 16 + 34 := IntWalk.i64_in _ (by omega)
      have v3 : IntKind.i64.wrap (16 * (l.segs.length : Int)) = 16 * (l.segs.length : Int) := IntWalk.i64_in _ (by omega)
      have v4 : IntKind.i64.wrap (16 + (x.size : Int) + 16 + 34 + 16 * (l.segs.length : Int)) = 16 + (x.size : Int) + 16 + 34 + 16 * (l.segs.length : Int) := IntWalk.i64_in _ (by omega)
      have V := Lib.hid (And.intro hm (And.intro hul (And.intro hfew (And.intro hcap0 (And.intro hcap1 (And.intro hfit (And.intro hx0 hx)))))))
      clear hul hfew hcap0 hcap1 hfit hx0 hx hb h0 hm
      generalize hmm : l.segs.length = m at *
      have HMM := Lib.hid hmm
      clear hmm
      have q1 : ∀ n : Int, (n = 1 ∨ n = 2) → ∀ d os, Calls Tryz.prog 105 #[.int .i64 n] (grow (redrawn w1 d) os) fun e w'' => e = .returned (.int .i64 (18 + 16 * n)) ∧ ∃ p : Regrown, w'' = grow (redrawn w1 p.d) p.os := fun n hn d os => Calls.regrown_of (size_pure _ n (by omega) (by omega))
      have k5 := cell_regrown d5
      refine wp_region_quiet_below (by kernel_rfl) (by kernel_rfl) ?_
      repeat (go_big_quiet_step (exact q1 _ (by first | exact .inl rfl | exact .inr rfl) _ _))
      refine wpQuiet_nil ?_
      intro _ hw'
      obtain ⟨⟨dq, osq⟩, hw''⟩ := hw'
      subst hw''
      have HB3 := Lib.hid (HB.out.trans ((below_regrown w1 dq osq).mono HB.out.size))
      generalize grow (redrawn w1 dq) osq = w3 at *
      obtain ⟨u1, u2, u3, u4, u5, u6, u7, u8⟩ := V.out
      clear q1 k5
      go_wp2
      all_goals (go_ret; exact ⟨ret_int (by unfold lgRoom lgNeed; rw [HDK.out, HMM.out]; simp only [Bool.false_eq_true, if_false, if_true]; split <;> first | rfl | (exfalso; omega)), HB3.out⟩)
  · have HDK := Lib.hid hdk
    have hroom : dkRoom st = .tuple #[.int .i64 0, .int .i64 0, .int .i64 45] := by unfold dkRoom; rw [hdk]; rfl
    rw [hroom]
    clear hdk hroom
    go_wp2
    go_ret
    exact ⟨ret_int (by unfold lgRoom; rw [HDK.out]; rfl), HB.out⟩
end Go.Proofs.YtcdjckdbcffgdaaGreatDoor

/- The walk of Segs. -/
namespace Go.Proofs.YtcdjckdbcffgdaaGreatDoor
open Go.RowKit Go.Sort

set_option maxRecDepth 100000 in
set_option maxHeartbeats 2000000 in
theorem lg_segs (w : World) (S : Nat → Prop) (g p : Nat) (l : LgSt) (h : IsLg w S g p l) (hb : l.segs.length ≤ 64) (h0 : 0 < l.segs.length) :
    Calls Tryz.prog 13 #[.pointer (some ⟨g, 0, none⟩)] w fun e w' => ∃ v, e = .returned (.agg #[.int .i64 l.gen, v]) ∧ OwnSegs w' v l.segs ∧ (∀ b, v.ownBlock = some b → w.heap.size ≤ b) ∧ Below w.heap.size w w' := by
  obtain ⟨sv, iv, xs, S1, h, _, _, _⟩ := h
  obtain ⟨a, c, rfl⟩ := h.segs.shape
  obtain ⟨_, _, _, _, c4, c5, _⟩ := h.cs
  have hgl := h.gl
  have HS := Lib.hid h.segs
  clear h
  go_enter Tryz.func13, Tryz.ntmps13
  go_wp2_with fail
  have d4 : (w.alloc (.cells #[.int .i64 0, .slice none 0 0] 38)).cell? ⟨g, 4, none⟩ = some (.int .i64 l.gen) := (World.cell?_alloc_past _ _ _ hgl).trans c4
  have d5 : (w.alloc (.cells #[.int .i64 0, .slice none 0 0] 38)).cell? ⟨g, 5, none⟩ = some (.slice a l.segs.length c) := (World.cell?_alloc_past _ _ _ hgl).trans c5
  have hbox : (w.alloc (.cells #[.int .i64 0, .slice none 0 0] 38)).heap[w.heap.size]? = some (.cells #[.int .i64 0, .slice none 0 0] 38 (0, 0)) := alloc_at_top _ _ rfl
  have HB0 := Lib.hid ((Below.refl w.heap.size w).alloc (Nat.le_refl _) (.cells #[.int .i64 0, .slice none 0 0] 38))
  have hz0 : w.heap.size < (w.alloc (.cells #[.int .i64 0, .slice none 0 0] 38)).heap.size := by simp
  have hgB : g ≠ w.heap.size := by omega
  have hgl0 : g < (w.alloc (.cells #[.int .i64 0, .slice none 0 0] 38)).heap.size := by simp; omega
  have HS0 := Lib.hid (HS.out.pure HB0.out)
  generalize w.alloc (.cells #[.int .i64 0, .slice none 0 0] 38) = w0 at *
  have HBX := Lib.hid hbox
  have HCON := Lib.hid (fun W (hb : Below w0.heap.size w0 W) => clone_segs W (.slice a l.segs.length c) l.segs (HS0.out.pure hb) h0 (by omega))
  clear hbox
  go_region_held3 (fun w' => w'.cell? ⟨g, 4, none⟩ = some (.int .i64 l.gen) ∧ w'.cell? ⟨g, 5, none⟩ = some (.slice a l.segs.length c)) (first | exact ⟨d4, d5⟩ | exact ⟨e4, e5⟩ | (refine ⟨?_, ?_⟩ <;> ((repeat rw [World.cell?_setCell_other _ _ _ _ (by intro e; have e2 := congrArg Addr.block e; simp at e2; omega)]); first | exact e4 | exact e5)) | go_keep) (first
    | (go_at_call 52; refine (HCON.out _ (by first | exact Below.refl _ _ | exact (Below.refl _ _).drew)).mono ?_; rintro e W1 ⟨v1, rfl, hv1, hvb1, hb1⟩; obtain ⟨g1, c1, rfl⟩ := own_some hv1 h0; have hg1 := hvb1 g1 rfl; have BW := Below.trans (show Below w0.heap.size w0 _ from (by first | exact Below.refl _ _ | exact (Below.refl _ _).drew)) hb1; have e4 := (BW.cell (p := ⟨g, 4, none⟩) hgl0).trans d4; have e5 := (BW.cell (p := ⟨g, 5, none⟩) hgl0).trans d5; have bx := (BW.block _ hz0).trans HBX.out; have x0 : W1.cell? ⟨w.heap.size, 0, none⟩ = some (.int .i64 0) := (cell_of_row _ _ _ _ _ _ bx).trans rfl; have x1 : W1.cell? ⟨w.heap.size, 1, none⟩ = some (.slice none 0 0) := (cell_of_row _ _ _ _ _ _ bx).trans rfl; have z0 : ∀ j : Nat, W1.frozen? ⟨w.heap.size, j, none⟩ = false := fun j => frozen_of_row _ _ _ _ _ bx; have BX := Lib.hid bx; have HV := Lib.hid hv1; have HB1 := Lib.hid BW; clear hv1 hvb1 hb1 BW bx))
  go_wp2
  simp at hg1
  have hq := heap_setCell_same _ _ 1 _ _ (.slice (some ⟨g1, 0, none⟩) l.segs.length c1) (heap_setCell_same W1 _ 0 _ _ (.int .i64 l.gen) BX.out)
  have r0 : ((W1.setCell ⟨w.heap.size, 0, none⟩ (.int .i64 l.gen)).setCell ⟨w.heap.size, 1, none⟩ (.slice (some ⟨g1, 0, none⟩) l.segs.length c1)).cell? ⟨w.heap.size, 0, none⟩ = some (.int .i64 l.gen) := (cell_of_row _ _ _ _ _ _ hq).trans rfl
  have r1 : ((W1.setCell ⟨w.heap.size, 0, none⟩ (.int .i64 l.gen)).setCell ⟨w.heap.size, 1, none⟩ (.slice (some ⟨g1, 0, none⟩) l.segs.length c1)).cell? ⟨w.heap.size, 1, none⟩ = some (.slice (some ⟨g1, 0, none⟩) l.segs.length c1) := (cell_of_row _ _ _ _ _ _ hq).trans rfl
  have hnb : some g1 ≠ some w.heap.size := fun e => by have := Option.some.inj e; omega
  refine bodyPost_ret (v := .agg #[.int .i64 l.gen, .slice (some ⟨g1, 0, none⟩) l.segs.length c1]) (by simp [results, Tryz.results13, go_sem, r0, r1]) rfl ?_
  refine ⟨_, rfl, ownsRow_setCell_other (a := ⟨w.heap.size, 1, none⟩) (ownsRow_setCell_other (a := ⟨w.heap.size, 0, none⟩) HV.out hnb _) hnb _, fun b e => by have := Option.some.inj e; simp at this; omega, ?_⟩
  exact ((HB0.out.trans (HB1.out.mono HB0.out.size)).setCell (Nat.le_refl _) _).setCell (Nat.le_refl _) _
end Go.Proofs.YtcdjckdbcffgdaaGreatDoor
