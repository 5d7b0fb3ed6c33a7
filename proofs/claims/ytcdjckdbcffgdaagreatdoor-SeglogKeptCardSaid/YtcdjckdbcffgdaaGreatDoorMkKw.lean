/- The walk of the law SeglogKept. -/
import Derived.Test.YtcdjckdbcffgdaaGreatDoorMDk
import Derived.Test.YtcdjckdbcffgdaaGreatDoorMDg
import Derived.Test.YtcdjckdbcffgdaaGreatDoorMDf
import Derived.Test.YtcdjckdbcffgdaaGreatDoorMDh
import Derived.Test.YtcdjckdbcffgdaaGreatDoorMDj
import Derived.Test.YtcdjckdbcffgdaaGreatDoorMDi
namespace Go.Proofs.YtcdjckdbcffgdaaGreatDoor
open Go.RowKit Go.Maps Go.Sort

/-- A row of texts, cut. -/
theorem own_cut {w : World} {base : Nat} {a : Option Addr} {m c n : Nat} {l : List (List UInt8)} (h : OwnTexts w base (.slice a m c) l) (hn : n ≤ l.length) : OwnTexts w base (.slice a n c) (l.take n) := by
  obtain ⟨h0, ⟨h1, h2⟩ | ⟨g, cap, cur, hv, hb, hh, hc, hm, hcs, hx⟩⟩ := h
  · cases h1
    have : n = 0 := by omega
    subst this
    exact World.ownsRow_nil _ _ _ _
  · cases hv
    have hl : (l.take n).length = n := by rw [List.length_take]; omega
    unfold OwnTexts
    rw [hl]
    refine ⟨by rw [List.length_map, hl, Nat.mul_one], .inr ⟨g, c, cur, rfl, hb, hh, by omega, hm, hcs, ?_⟩⟩
    rw [List.map_take, ← hx, List.take_take]
    congr 1; omega

/-- What lies in memory ahead of each act: the log, its disk, the Config's box, the row of all batches. -/
structure KwAt (w wr : World) (x y z : Int) (F : Nat → Prop) (g p b : Nat) (st : DkSt) (l : LgSt) (av : Value) (all : List (List UInt8)) : Prop where
  env : LgEnv wr F g p b st l
  below : Below w.heap.size w wr
  far : ∀ k, F k → w.heap.size < k
  fp : w.heap.size < p
  fb : w.heap.size < b
  pw : PW < w.heap.size
  cfg : wr.heap[w.heap.size]? = some (.cells #[.int .i64 x, .int .i64 y, .int .u8 z] 23 (0, 0))
  own : OwnTexts wr (w.heap.size + 1) av all
  ap : ∀ k, av.ownBlock = some k → ¬ F k ∧ k ≠ p ∧ k ≠ b
theorem KwAt.lt {w wr : World} {x y z : Int} {F : Nat → Prop} {g p b : Nat} {st : DkSt} {l : LgSt} {av : Value} {all : List (List UInt8)} (h : KwAt w wr x y z F g p b st l av all) : w.heap.size < wr.heap.size := lt_of_block h.cfg
theorem KwAt.pure {w wr w' : World} {x y z : Int} {F : Nat → Prop} {g p b : Nat} {st : DkSt} {l : LgSt} {av : Value} {all : List (List UInt8)} (h : KwAt w wr x y z F g p b st l av all) (hb : Below wr.heap.size wr w') : KwAt w w' x y z F g p b st l av all :=
  ⟨h.env.pure hb, h.below.trans (hb.mono h.below.size), h.far, h.fp, h.fb, h.pw, (hb.block _ (lt_of_block h.cfg)).trans h.cfg, (Fr.pure (S := fun _ => False) hb).ownsRow h.own (fun _ _ e => e), h.ap⟩
/-- The log has turned. -/
theorem KwAt.left {w wr w' : World} {x y z : Int} {F : Nat → Prop} {g p b : Nat} {st : DkSt} {l : LgSt} {av : Value} {all : List (List UInt8)} (h : KwAt w wr x y z F g p b st l av all) {s : DkSt × LgSt} (hl : LgLeft wr F g p b s w') : ∃ F', KwAt w w' x y z F' g p b s.1 s.2 av all := by
  obtain ⟨F', h1, h2, h3⟩ := hl
  have hlt := h.lt
  have hfp := h.fp
  have hfb := h.fb
  refine ⟨F', h1, h.below.trans (h2.below h.below.size fun k hk e => ?_), fun k hk => ?_, hfp, hfb, h.pw, h2.heapAt h.cfg (fun e => ?_), h2.ownsRow h.own (fun k hk e => ?_), fun k hk => ⟨fun e => ?_, (h.ap k hk).2⟩⟩
  · rcases e with e | rfl | rfl
    · have := h.far k e; omega
    · omega
    · omega
  · rcases h3 k hk with e | e
    · exact h.far k e
    · omega
  · rcases e with e | e | e
    · have := h.far _ e; omega
    · omega
    · omega
  · rcases e with e | e | e
    · exact (h.ap k hk).1 e
    · exact (h.ap k hk).2.1 e
    · exact (h.ap k hk).2.2 e
  · rcases h3 k e with e | e
    · exact (h.ap k hk).1 e
    · have := own_below h.own hk; omega
/-- The disk alone has turned. -/
theorem KwAt.disk {w wr w' : World} {x y z : Int} {F : Nat → Prop} {g p b : Nat} {st st' : DkSt} {l : LgSt} {av : Value} {all : List (List UInt8)} (h : KwAt w wr x y z F g p b st l av all) (hd : IsDk w' p b st') (hf : DFr p b wr w') : KwAt w w' x y z F g p b st' l av all := by
  have hfp := h.fp
  have hfb := h.fb
  exact ⟨h.env.disk hd hf, h.below.trans (hf.below h.below.size fun k hk e => by rcases e with rfl | rfl <;> omega), h.far, hfp, hfb, h.pw, hf.heapAt h.cfg (fun e => by rcases e with e | e <;> omega), hf.ownsRow h.own (fun k hk e => by rcases e with e | e; exact (h.ap k hk).2.1 e; exact (h.ap k hk).2.2 e), h.ap⟩
/-- The row has one more. -/
theorem KwAt.more {w wr w8 : World} {x y z : Int} {F : Nat → Prop} {g p b : Nat} {st : DkSt} {l : LgSt} {av : Value} {all : List (List UInt8)} (h : KwAt w wr x y z F g p b st l av all) {s : ByteArray} {gg n cap : Nat}
    (hg : (wr.alloc (.cells #[.string s] 9)).grownBy w8 av.ownBlock) (hn : n = all.length + 1) (hown : w8.ownsRow (w.heap.size + 1) 9 1 (.slice (some ⟨gg, 0, none⟩) n cap) n (all.map encStr ++ [.string s])) (hat : av.ownBlock = some gg ∨ gg = wr.heap.size + 1) :
    KwAt w w8 x y z F g p b st l (.slice (some ⟨gg, 0, none⟩) n cap) (all ++ [s.data.toList]) := by
  have hfp := h.fp
  have hfb := h.fb
  have hpw := h.pw
  have hlt := h.lt
  have hf : Fr (fun k => av.ownBlock = some k) wr w8 := (Fr.pure ((Below.refl _ _).alloc (Nat.le_refl _) _)).trans (grown_fr hg)
  have hge : ∀ k, av.ownBlock = some k → w.heap.size + 1 ≤ k := fun k hk => own_geX h.own hk
  have hpl := h.env.dk.lt
  have hbl := h.env.dk.own.lt
  refine ⟨h.env.kept hf (fun k hk => ⟨(h.ap k hk).1, (h.ap k hk).2.1, (h.ap k hk).2.2, fun e => by have := hge k hk; omega⟩), h.below.trans (hf.below h.below.size fun k hk e => by have := hge k e; omega), h.far, hfp, hfb, hpw, hf.heapAt h.cfg (fun e => by have := hge _ e; omega), ?_, fun k hk => ?_⟩
  · unfold OwnTexts
    rw [List.map_append, List.length_append, List.length_singleton, ← hn, List.map_singleton, show encStr s.data.toList = .string s from rfl]
    exact hown
  · have e2 : gg = k := Option.some.inj hk
    subst e2
    rcases hat with h8 | h8
    · exact h.ap _ h8
    · exact ⟨fun e => by have := h.env.lt _ e; omega, by omega, by omega⟩
/-- The log is opened anew. -/
theorem KwAt.opened {w wr w' : World} {x y z : Int} {F : Nat → Prop} {g p b : Nat} {st st' : DkSt} {l l' : LgSt} {av : Value} {all : List (List UInt8)} (h : KwAt w wr x y z F g p b st l av all) {e : Ending} {c : Int} (hp : Pow w) (hk : LgOk l') (hi : InitPost p b (st', c, some l') wr e w') :
    ∃ g' F', e = .returned (.tuple #[.pointer (some ⟨g', 0, none⟩), .int .i64 c]) ∧ KwAt w w' x y z F' g' p b st' l' av all := by
  obtain ⟨h1, h2, g', F', h3, h4, h5⟩ := hi
  have hk2 := h.disk h1 h2
  have hlt := h.lt
  have hpw := h.pw
  have hpl := h.env.dk.lt
  have hbl := h.env.dk.own.lt
  exact ⟨g', F', h5, ⟨⟨h3, h1, below_pow hk2.below hp, hk, fun k hk => by have := h4 k hk; exact ⟨by omega, by omega, by omega⟩, hk2.env.pw⟩, hk2.below, fun k hk => by have := h4 k hk; omega, h.fp, h.fb, h.pw, hk2.cfg, hk2.own, fun k hk => ⟨fun e => by have := h4 k e; have := own_below h.own hk; omega, (h.ap k hk).2⟩⟩⟩
theorem KwAt.shorter {w wr : World} {x y z : Int} {F : Nat → Prop} {g p b : Nat} {st : DkSt} {l : LgSt} {a : Option Addr} {m c n : Nat} {all : List (List UInt8)} (h : KwAt w wr x y z F g p b st l (.slice a m c) all) (hn : n ≤ all.length) : KwAt w wr x y z F g p b st l (.slice a n c) (all.take n) :=
  ⟨h.env, h.below, h.far, h.fp, h.fb, h.pw, h.cfg, own_cut h.own hn, fun k hk => h.ap k (by cases a with | none => cases hk | some a => exact hk)⟩

theorem own_size {w : World} {base : Nat} {a : Option Addr} {m c : Nat} {l : List (List UInt8)} (h : OwnTexts w base (.slice a m c) l) : m = l.length := by
  obtain ⟨_, ⟨h1, h2⟩ | ⟨g, cap, cur, hv, _⟩⟩ := h
  · cases h1; exact h2.symm
  · cases hv; rfl
theorem own_cap {w : World} {base : Nat} {g m c n : Nat} {e : TypeId} {xs : List Value} (h : w.ownsRow base e 1 (.slice (some ⟨g, 0, none⟩) m c) n xs) : n ≤ c := by
  obtain ⟨_, ⟨h1, h2⟩ | ⟨g, cap, cur, hv, _, _, hc, _⟩⟩ := h
  · cases h1
  · cases hv; exact hc
theorem own_cap' {w : World} {base : Nat} {a : Option Addr} {m c : Nat} {l : List (List UInt8)} (h : OwnTexts w base (.slice a m c) l) : l.length ≤ c := by
  obtain ⟨_, ⟨h1, h2⟩ | ⟨g, cap, cur, hv, _, _, hc, _⟩⟩ := h
  · omega
  · cases hv; exact hc
theorem own_none {w : World} {base : Nat} {m c : Nat} {l : List (List UInt8)} (h : OwnTexts w base (.slice none m c) l) : l.length = 0 ∧ c = 0 := by
  obtain ⟨_, ⟨h1, h2⟩ | ⟨g, cap, cur, hv, _⟩⟩ := h
  · cases h1; exact ⟨h2, rfl⟩
  · cases hv
theorem own_some0 {w : World} {base : Nat} {a : Addr} {m c : Nat} {l : List (List UInt8)} (h : OwnTexts w base (.slice (some a) m c) l) : ∃ g, a = ⟨g, 0, none⟩ := by
  obtain ⟨_, ⟨h1, h2⟩ | ⟨g, cap, cur, hv, _⟩⟩ := h
  · cases h1
  · cases hv; exact ⟨g, rfl⟩
theorem lg_range_zero (w : World) (F : Nat → Prop) (g p b : Nat) (st : DkSt) (l : LgSt) (h : LgEnv w F g p b st l) (hon : LgOn st l) (hlit : st.dark = false) (r : Nat) (h1 : l.first = 0) (h3 : r = l.next) :
    Calls Tryz.prog 23 #[.pointer (some ⟨g, 0, none⟩), .int .i64 0, .int .i64 (r : Int)] w fun e w' => (∃ v, e = .returned (.tuple #[v, .int .i64 0]) ∧ OwnTexts w' w.heap.size v l.all) ∧ Below w.heap.size w w' := by
  have hn := lit_next h.ok h1
  by_cases h0 : r = 0
  · subst h0
    have e : l.all = [] := List.eq_nil_of_length_eq_zero (by omega)
    refine (lg_range_eq w F g p b st l h 0 (by rw [h1]; exact Int.le_refl _) (by omega)).mono ?_
    rintro e w' ⟨rfl, hb⟩
    exact ⟨⟨_, rfl, by rw [e]; exact World.ownsRow_nil _ _ _ _⟩, hb⟩
  · refine (lg_range_ok w F g p b st l h hon hlit 0 r (by rw [h1]; exact Int.le_refl _) (by omega) (by omega)).mono ?_
    rintro e w' ⟨⟨v, rfl, hv⟩, hb⟩
    rw [h1] at hv
    exact ⟨⟨v, rfl, by have e : (l.all.drop (0 - (0 : Int).toNat)).take (r - 0) = l.all := by
                         simp only [Int.toNat_zero, Nat.sub_zero, List.drop_zero]
                         exact List.take_of_length_le (by omega)
                       rw [e] at hv; exact hv⟩, hb⟩
theorem bytes_nil {s : ByteArray} (h : s.data.toList = []) : s = ⟨#[]⟩ := by
  obtain ⟨⟨l⟩⟩ := s
  simp only at h
  rw [h]
theorem own_strs_pure {w w' : World} {v : Value} {ss : List ByteArray} (h : StrsAt w v ss) (hb : Below w.heap.size w w') : StrsAt w' v ss := h.pure hb

set_option maxRecDepth 100000 in
set_option maxHeartbeats 3000000 in
theorem seglogKept_any (w : World) (hl : Libs w) (cp : Int) (hcp : cp ≤ 9223372036854775807) (x y z : Int) (hz0 : 0 ≤ z) (hz1 : z ≤ 255) (sv : Value) (acts : List ActS) (hs : ActsAt w sv acts) (hsl : acts.length ≤ 140737488355328) (hok : ∀ a ∈ acts, ActOk a) :
    Calls Tryz.prog 6 #[.int .i64 cp, .agg #[.int .i64 x, .int .i64 y, .int .u8 z], sv] w fun e w' => e = .returned (.bool true) ∧ Below w.heap.size w w' := by
  obtain ⟨sa, sc, rfl⟩ := hs.shape
  have HL := Lib.hid hl
  have HS := Lib.hid hs
  have HOK := Lib.hid hok
  obtain ⟨w1, hw1⟩ : ∃ w1, w1 = w.alloc (.cells #[.int .i64 x, .int .i64 y, .int .u8 z] 23) := ⟨_, rfl⟩
  have hb1 : Below w.heap.size w w1 := by rw [hw1]; exact (Below.refl _ _).alloc (Nat.le_refl _) _
  have hk : w1.heap[w.heap.size]? = some (.cells #[.int .i64 x, .int .i64 y, .int .u8 z] 23 (0, 0)) := by rw [hw1]; exact heap_alloc_new _ _
  have HB1 := Lib.hid hb1
  have HK1 := Lib.hid hk
  clear hl hs hok hb1 hk
  go_enter Tryz.func6, Tryz.ntmps6
  go_wp2_with (go_at_call 7; rw [← hw1]; clear hw1; refine (works_any _ (below_pow HB1.out HL.out.pow)).mono ?_; rintro e w2 ⟨rfl, hb2⟩; have HB2 := Lib.hid (HB1.out.trans (hb2.mono HB1.out.size)); have HK2 := Lib.hid ((hb2.block _ (lt_of_block HK1.out)).trans HK1.out); clear hb2)
  refine (heavy_any _ _ acts (HS.out.pure HB2.out) hsl HOK.out).mono ?_
  rintro e w3 ⟨rfl, hb3⟩
  have HB3 := Lib.hid (HB2.out.trans (hb3.mono HB2.out.size))
  have HK3 := Lib.hid ((hb3.block _ (lt_of_block HK2.out)).trans HK2.out)
  clear hb3
  by_cases hh : 12000 ≤ hvN acts
  · have hd : decide (12000 ≤ hvN acts) = true := decide_eq_true hh
    rw [hd]
    clear hd hh
    go_wp2_with fail
    refine (works_any _ (below_pow HB3.out HL.out.pow)).mono ?_
    rintro e w4 ⟨rfl, hb4⟩
    have HB4 := Lib.hid (HB3.out.trans (hb4.mono HB3.out.size))
    clear hb4
    go_wp2
    go_ret
    exact ⟨rfl, HB4.out⟩
  have hd : decide (12000 ≤ hvN acts) = false := decide_eq_false hh
  rw [hd]
  have hlen : acts.length ≤ 200 := by have := hvN_len acts; omega
  have HPM := Lib.hid (show ∀ a ∈ acts, a.pay.size < 12000 from fun a ha => by have h1 := hvN_mem ha; unfold hvA at h1; omega)
  clear hd hh
  by_cases h60 : 60 < acts.length
  · have hd : decide ((60 : Int) < (acts.length : Int)) = true := by simp; omega
    have hd2 : (60 : Int) < (acts.length : Int) := by omega
    go_wp2_with fail
    refine (works_any _ (below_pow HB3.out HL.out.pow)).mono ?_
    rintro e w4 ⟨rfl, hb4⟩
    have HB4 := Lib.hid (HB3.out.trans (hb4.mono HB3.out.size))
    clear hb4
    go_wp2
    go_ret
    exact ⟨rfl, HB4.out⟩
  have hd : decide ((60 : Int) < (acts.length : Int)) = false := by simp; omega
  have hd2 : ¬ (60 : Int) < (acts.length : Int) := by omega
  go_wp2_with fail
  refine (dk_new w3 cp hcp).mono ?_
  rintro e w4 ⟨hb4, h4⟩
  have HB4 := Lib.hid (HB3.out.trans (hb4.mono HB3.out.size))
  have hk4 := (hb4.block _ (lt_of_block HK3.out)).trans HK3.out
  have k0 : w4.cell? ⟨w.heap.size, 0, none⟩ = some (.int .i64 x) := (cell_of_row _ _ _ _ _ _ hk4).trans rfl
  have k1 : w4.cell? ⟨w.heap.size, 1, none⟩ = some (.int .i64 y) := (cell_of_row _ _ _ _ _ _ hk4).trans rfl
  have k2 : w4.cell? ⟨w.heap.size, 2, none⟩ = some (.int .u8 z) := (cell_of_row _ _ _ _ _ _ hk4).trans rfl
  have HK4 := Lib.hid hk4
  clear hb4 hk4
  rcases load_cases cp [] with ⟨c, hcf, hc0, hld⟩ | hld
  · rw [hld] at h4
    simp only at h4
    subst h4
    go_wp2
    go_ret
    exact ⟨rfl, HB4.out⟩
  rw [hld] at h4
  obtain ⟨p, b, hpg, hbg, rfl, hdk⟩ := h4
  have HD := Lib.hid hdk
  clear hdk hld
  obtain ⟨cf, hcf⟩ : ∃ cf : Cfg, cf = ⟨x, y, z⟩ := ⟨_, rfl⟩
  have hs34 := HB3.out.size
  have hw4s := ltOfCell k0
  have hk1s : w.heap.size < w3.heap.size := lt_of_block HK3.out
  cases hok : cfgOk cf
  · have hbad := init_bad w4 p b _ HD.out 0 cf (by rw [hcf]; exact hz0) (by rw [hcf]; exact hz1) (.inl hok)
    rw [hcf] at hbad
    go_wp2_with fail
    refine hbad.mono ?_
    rintro e w5 ⟨_, hf5, rfl⟩
    have HB5 := Lib.hid (HB4.out.trans (hf5.below (B := w.heap.size) HB4.out.size (fun k hk e => by rcases e with rfl | rfl <;> omega)))
    clear hf5 hbad
    go_wp2
    go_ret
    exact ⟨rfl, HB5.out⟩
  have hgo := init_go w4 (below_pow HB4.out HL.out.pow) p b _ HD.out 0 (by decide) cf (by rw [hcf]; exact hz0) (by rw [hcf]; exact hz1) hok rfl rfl
  rw [show ((0 : Nat) : Int) = 0 from rfl] at hgo
  have hio := init_on (st := ⟨[], cp, -1, false⟩) ⟨rfl, rfl⟩ rfl hok (q := 0) (by decide)
  rw [show ((0 : Nat) : Int) = 0 from rfl] at hio
  rcases hio with hio | hio
  rotate_left
  · rw [hio, hcf] at hgo
    go_wp2_with fail
    refine hgo.mono ?_
    rintro e w5 ⟨_, hf5, rfl⟩
    have HB5 := Lib.hid (HB4.out.trans (hf5.below (B := w.heap.size) HB4.out.size (fun k hk e => by rcases e with rfl | rfl <;> omega)))
    clear hf5 hgo
    go_wp2
    go_ret
    exact ⟨rfl, HB5.out⟩
  rw [hio, hcf] at hgo
  go_wp2_with fail
  refine hgo.mono ?_
  rintro e w5 ⟨hd5, hf5, g, F, hlg, hF, rfl⟩
  have hpw := pow_lt HL.out.pow
  have hb5 : Below w.heap.size w w5 := HB4.out.trans (hf5.below (B := w.heap.size) HB4.out.size (fun k hk e => by rcases e with rfl | rfl <;> omega))
  have hnk : LgOk (newL cf 0) := newL_ok hok (by decide)
  have HKW := Lib.hid (show KwAt w w5 x y z F g p b ⟨newFs 0, cp, -1, false⟩ (newL cf 0) (.slice none 0 0) [] from
    ⟨⟨by rw [hcf]; exact hlg, hd5, below_pow hb5 HL.out.pow, hnk, fun k hk => by have := hF k hk; have := HD.out.lt; have := HD.out.own.lt; exact ⟨by omega, by omega, by have e : PW < w.heap.size := hpw; omega⟩, by have e : PW < w.heap.size := hpw; omega⟩, hb5, fun k hk => by have := hF k hk; omega, by omega, by omega, hpw, hf5.heapAt HK4.out (fun e => by rcases e with e | e <;> omega), World.ownsRow_nil _ _ _ _, fun k hk => by cases hk⟩)
  have HRL := Lib.hid (show KpRel ⟨newFs 0, cp, -1, false⟩ (newL cf 0) cf [] (⟨#[]⟩ : ByteArray).data.toList 0 from kept_new (st := ⟨newFs 0, cp, -1, false⟩) rfl hnk (newFs_on (st := ⟨[], cp, -1, false⟩) _ (by decide)))
  have HCF := Lib.hid (And.intro hok hcf)
  clear hd5 hf5 hlg hF hgo hio hb5 hnk hok hcf k0 k1 k2
  go_wp2
  go_loopw [9, 10, 11, 12, 13] (fun lv av cv sv i wr => ∃ (k S : Nat) (F : Nat → Prop) (g : Nat) (st : DkSt) (l : LgSt) (all : List (List UInt8)) (cut : ByteArray), lv = .pointer (some ⟨g, 0, none⟩) ∧ cv = .string cut ∧ sv = .int .i64 (S : Int) ∧ i = .int .i64 (k : Int) ∧ k ≤ acts.length ∧ all.length ≤ k ∧ Hid (KwAt w wr x y z F g p b st l av all) ∧ Hid (KpRel st l cf all cut.data.toList S)) (fun _ _ _ _ i _ => acts.length - (intOf i).toNat)
  case atStart => exact ⟨0, 0, F, g, _, _, [], ⟨#[]⟩, rfl, rfl, rfl, rfl, by omega, by simp, HKW, HRL⟩
  case round =>
    clear HKW HRL HK1 HK3 HK4 HB1 HB2 HB3 HB4 HD
    obtain ⟨k, S, F, g, st, l, all, cut, rfl, rfl, rfl, rfl, hk, hal, HKW, HRL⟩ := hrel
    by_cases hlt : k < acts.length
    rotate_left
    · have hgt : decide ((k : Int) < (acts.length : Int)) = false := by simp; omega
      go_wp2
      go_ret
      exact ⟨rfl, HKW.out.below⟩
    obtain ⟨pb, po, rfl, hpl, hc0, hc1, hc2, hc3, hc4, hi4⟩ := (HS.out.pure HKW.out.below).at k hlt
    have HI4 := Lib.hid hi4
    have hao := HOK.out acts[k] (List.getElem_mem hlt)
    have hps := HPM.out acts[k] (List.getElem_mem hlt)
    obtain ⟨w0, w1, _, ha0, ha1, _⟩ := hao
    obtain ⟨A, hA⟩ : ∃ A, A = acts[k] := ⟨_, rfl⟩
    rw [← hA] at hc0 hc1 hc2 hc3 hc4 hps w0 w1 ha0 ha1 HI4
    have hkl : A.ks ≠ [] → ∀ j, A.keep.ownBlock = some j → j < w.heap.size := by
      obtain ⟨_, _, _, _, _, _, _, _, _, h9⟩ := HS.out.at k hlt
      rw [hA]; exact fun h0 j hj => ints_block h9 h0 hj
    clear hA hi4
    obtain ⟨ka, kc, hkeep, -, -⟩ := HI4.out
    obtain ⟨wh, hwh⟩ : ∃ wh, wh = A.what := ⟨_, rfl⟩
    obtain ⟨pay, hpay⟩ : ∃ pay, pay = A.pay := ⟨_, rfl⟩
    obtain ⟨na, hna⟩ : ∃ na, na = A.a := ⟨_, rfl⟩
    obtain ⟨nb, hnb⟩ : ∃ nb, nb = A.b := ⟨_, rfl⟩
    obtain ⟨ks, hks⟩ : ∃ ks, ks = A.ks := ⟨_, rfl⟩
    rw [hkeep] at hc4 HI4 hkl
    rw [← hwh] at hc0 w0 w1
    rw [← hpay] at hc1 hps
    rw [← hna] at hc2 ha0 ha1
    rw [← hnb] at hc3
    rw [← hks] at hc4 HI4 hkl
    clear hkeep hwh hpay hna hnb hks
    obtain ⟨av0, an, ac, rfl⟩ := own_shape HKW.out.own
    obtain rfl : an = all.length := own_size HKW.out.own
    have hwr := HKW.out.lt
    obtain ⟨w6, hw6⟩ : ∃ w6, w6 = wr.alloc (.cells #[.int .u8 wh, .string pay, .int .i64 na, .int .i64 nb, .slice ka ks.length kc] 65) := ⟨_, rfl⟩
    have hb6 : Below wr.heap.size wr w6 := by rw [hw6]; exact (Below.refl _ _).alloc (Nat.le_refl _) _
    have hbx : w6.heap[wr.heap.size]? = some (.cells #[.int .u8 wh, .string pay, .int .i64 na, .int .i64 nb, .slice ka ks.length kc] 65 (0, 0)) := by rw [hw6]; exact heap_alloc_new _ _
    have HK6 := Lib.hid (HKW.out.pure hb6)
    have HI6 := Lib.hid (HI4.out.pureX hb6)
    have HBX := Lib.hid hbx
    have hab : ∀ o, (wr.alloc o).cell? ⟨wr.heap.size, 0, none⟩ = (wr.alloc o).cell? ⟨wr.heap.size, 0, none⟩ := fun _ => rfl
    obtain ⟨i0, hi, hiz0, hiz1, hiz2⟩ := info_parts Tryz.infoStr
    have HI := Lib.hid hi
    have HZ0 := Lib.hid hiz0
    have HZ1 := Lib.hid hiz1
    have HZ2 := Lib.hid hiz2
    clear hb6 hbx hab hi hiz0 hiz1 hiz2
    by_cases h0 : wh % 6 = 0
    · -- a batch is appended
      have e0 : (wh % 6 == 0) = true := by simpa using h0
      clear h0
      go_wp2_with fail
      rw [← hw6]
      clear hw6
      refine (lg_append w6 F g p b st l HK6.out.env pay (by omega)).mono ?_
      rintro e w7 ⟨rfl, hl7⟩
      obtain ⟨F1, hk7⟩ := HK6.out.left hl7
      have hbx7 : w7.cell? ⟨wr.heap.size, 1, none⟩ = some (.string pay) := by
        obtain ⟨F2, _, hf, _⟩ := hl7
        exact hf.cellAt ((cell_of_row _ _ _ _ _ _ HBX.out).trans rfl) (fun e => by
          have h1 := HKW.out.env.lt
          have h2 := HKW.out.env.dk.lt
          have h3 := HKW.out.env.dk.own.lt
          rcases e with e | e | e
          · have := h1 _ e; omega
          · omega
          · omega)
      have hka := kept_append pay.data.toList (fs_apart HK6.out.env.dk.ok.fs) HRL.out
      obtain ⟨R, hR⟩ : ∃ R, R = lgAppend st l pay.data.toList := ⟨_, rfl⟩
      rw [← hR] at hk7 hka ⊢
      have HK7 := Lib.hid hk7
      clear hl7 hk7 hR
      rcases hka with ⟨c0, cseq, hrl⟩ | ⟨cne, hcut, hno⟩
      · have HRL7 := Lib.hid hrl
        have hsq : (if R.2 = 0 then (l.next : Int) else 0) = (all.length : Int) := cseq
        rw [hsq, c0]
        have HO7 := Lib.hid (World.ownsRow.alloc HK7.out.own (.cells #[.string pay] 9))
        clear hrl cseq hsq c0
        go_wp2_with (first
          | (refine wpList_append_lies _ rfl _ _ 24 rfl (w.heap.size + 1) 9 i0 _ 1 16 Tryz.underlying24 HI.out HZ0.out HZ1.out HZ2.out rfl (by omega) _ all.length (all.map encStr) rfl HO7.out ⟨w7.heap.size, 0, none⟩ 1 1 [.string pay] rfl rfl (cells_new rfl rfl) (by simp [Value.oneCell']) (by omega) (by unfold maxLen; omega) (by omega) (by have := HK7.out.lt; simp; omega) (w7.heap.size + 1) (by simp) ?_; intro gg cap w8 hown8 hgrow8 hat8 hlt8))
        refine ⟨⟨k + 1, S, F1, g, R.1.1, R.1.2, all ++ [pay.data.toList], cut, rfl, rfl, rfl, by go_num, by omega, by simp; omega, Lib.hid (HK7.out.more hgrow8 rfl hown8 hat8), HRL7⟩, ?_⟩
        simp [intOf]; omega
      · have HC := Lib.hid hcut
        have HN := Lib.hid hno
        have hsq : (if R.2 = 0 then (l.next : Int) else 0) = 0 := if_neg cne
        rw [hsq]
        have hcb : (R.2 == 0) = false := by simpa using cne
        have hcn : (R.2 != 0) = true := by simpa using cne
        clear hcut hno hsq cne
        by_cases h45 : R.2 = 45
        · rw [h45]
          have H45 := Lib.hid h45
          clear h45 hcb hcn
          by_cases hce : cut.data.toList = []
          · have HCR := Lib.hid (HC.out H45.out hce)
            have hE1 : cut.toList.isEmpty = true := by rw [ByteArray.toList_eq, hce]; rfl
            clear hce
            go_wp2_with fail
            refine ⟨⟨k + 1, S, F1, g, R.1.1, R.1.2, all, pay, rfl, rfl, rfl, by go_num, by omega, by omega, HK7, HCR⟩, ?_⟩
            simp [intOf]; omega
          · have HCL := Lib.hid (HN.out (.inr hce))
            have hE1 : cut.toList.isEmpty = false := by rw [ByteArray.toList_eq, List.isEmpty_eq_false_iff]; exact hce
            clear hce
            go_wp2_with fail
            refine ⟨⟨k + 1, S, F1, g, R.1.1, R.1.2, all, cut, rfl, rfl, rfl, by go_num, by omega, by omega, HK7, HCL⟩, ?_⟩
            simp [intOf]; omega
        · have H45 := Lib.hid h45
          have hcb5 : (R.2 == 45) = false := by simpa using h45
          clear h45
          generalize hE : R.2 = E at *
          go_wp2_with fail
          refine ⟨⟨k + 1, S, F1, g, R.1.1, R.1.2, all, cut, rfl, rfl, rfl, by go_num, by omega, by omega, HK7, Lib.hid (HN.out (.inl H45.out))⟩, ?_⟩
          simp [intOf]; omega
    have e0 : (wh % 6 == 0) = false := by simpa using h0
    by_cases h1 : wh % 6 = 1
    · -- a sync
      have e1 : (wh % 6 == 1) = true := by simpa using h1
      clear h0 h1
      have hnl := HK6.out.env.ok.name_len
      go_wp2_with fail
      rw [← hw6]
      clear hw6
      refine (lg_sync w6 HK6.out.env.pow F g p b st l HK6.out.env.lg HK6.out.env.dk HK6.out.env.ok.pos (by have := HK6.out.env.ok.few; omega) (by omega)).mono ?_
      rintro e w7 ⟨rfl, hd7, hf7⟩
      have HK7 := Lib.hid (HK6.out.disk hd7 hf7)
      have hks := kept_sync HRL.out
      obtain ⟨R, hR⟩ : ∃ R, R = lgSync st l := ⟨_, rfl⟩
      rw [← hR] at HK7 hks ⊢
      clear hd7 hf7 hR hnl
      rcases hks with ⟨c0, hrl⟩ | ⟨cne, hrl⟩
      · have HRL7 := Lib.hid hrl
        rw [c0]
        clear hrl c0
        go_wp2_with fail
        refine ⟨⟨k + 1, all.length, F, g, R.1, l, all, cut, rfl, rfl, rfl, by go_num, by omega, by omega, HK7, HRL7⟩, ?_⟩
        simp [intOf]; omega
      · have HRL7 := Lib.hid hrl
        have hcb : (R.2 == 0) = false := by simpa using cne
        have hcn : (R.2 != 0) = true := by simpa using cne
        clear hrl cne
        generalize hE : R.2 = E at *
        go_wp2_with fail
        refine ⟨⟨k + 1, S, F, g, R.1, l, all, cut, rfl, rfl, rfl, by go_num, by omega, by omega, HK7, HRL7⟩, ?_⟩
        simp [intOf]; omega
    have e1 : (wh % 6 == 1) = false := by simpa using h1
    by_cases h4 : wh % 6 = 4
    · -- the power is to go
      have e4 : (wh % 6 == 4) = true := by simpa using h4
      clear h0 h1 h4
      go_wp2_with fail
      rw [← hw6]
      clear hw6
      obtain ⟨n, hn, hn0, hn1⟩ : ∃ n, n = wrap64 ((IntKind.u64.wrap na).tmod 20) ∧ -9223372036854775808 ≤ n ∧ n ≤ 9223372036854775807 := ⟨_, rfl, by unfold wrap64; omega, by unfold wrap64; omega⟩
      rw [← hn]
      refine (dk_cut w6 p b st HK6.out.env.dk n hn0 hn1).mono ?_
      rintro e w7 ⟨rfl, hd7, hf7⟩
      have HK7 := Lib.hid (HK6.out.disk hd7 hf7)
      have HRL7 := Lib.hid (kept_cut n HRL.out)
      clear hd7 hf7 hn
      go_wp2_with fail
      refine ⟨⟨k + 1, S, F, g, (dkCut st n).1, l, all, cut, rfl, rfl, rfl, by go_num, by omega, by omega, HK7, HRL7⟩, ?_⟩
      simp [intOf]; omega
    have e4 : (wh % 6 == 4) = false := by simpa using h4
    by_cases h5 : wh % 6 = 5
    · -- it went
      have e5 : (wh % 6 == 5) = true := by simpa using h5
      clear h0 h1 h4 h5
      go_wp2_with fail
      rw [← hw6]
      clear hw6
      refine (dk_crash0 w6 p b st HK6.out.env.dk _ ks HI6.out (fun hne j hj => by have h1 := hkl hne j hj; have h2 := HK6.out.fp; have h3 := HK6.out.fb; exact ⟨by omega, by omega⟩)).mono ?_
      rintro e w7 ⟨rfl, hd7, hf7⟩
      have HK7 := Lib.hid (HK6.out.disk hd7 hf7)
      obtain ⟨⟨st', l', hre⟩, hnm⟩ := kept_crash ks hd7.ok HRL.out
      have hop := open_go w7 (HL.out.pure HK7.out.below) p b (dkCrash st ks) hd7 (by
        have h2 := HK6.out.fp; have h3 := HK6.out.fb
        exact ⟨fun e => by have := HL.out.lt p e; omega, fun e => by have := HL.out.lt b e; omega⟩) hnm cf (by rw [HCF.out.2]; exact hz0) (by rw [HCF.out.2]; exact hz1) HCF.out.1
      rw [hre.op, HCF.out.2] at hop
      have k0 : w7.cell? ⟨w.heap.size, 0, none⟩ = some (.int .i64 x) := (cell_of_row _ _ _ _ _ _ HK7.out.cfg).trans rfl
      have k1 : w7.cell? ⟨w.heap.size, 1, none⟩ = some (.int .i64 y) := (cell_of_row _ _ _ _ _ _ HK7.out.cfg).trans rfl
      have k2 : w7.cell? ⟨w.heap.size, 2, none⟩ = some (.int .u8 z) := (cell_of_row _ _ _ _ _ _ HK7.out.cfg).trans rfl
      have HRE := Lib.hid hre
      have HOP := Lib.hid hop
      clear hd7 hf7 hre hop hnm
      go_wp2_with fail
      refine HOP.out.mono ?_
      intro e w8 h8
      obtain ⟨g8, F8, rfl, hk8⟩ := HK7.out.opened HL.out.pow HRE.out.lit.ok h8
      have HK8 := Lib.hid hk8
      clear h8 hk8 k0 k1 k2 HOP
      obtain ⟨NX, hNX⟩ : ∃ n, n = l'.next := ⟨_, rfl⟩
      have HNX := Lib.hid hNX.symm
      have HPOS := Lib.hid (show 0 < l'.segs.length ∧ 0 < l'.ix.length ∧ l'.ix.length ≤ 1000000 from by
        have h1 := HRE.out.lit.ok.pos; have h2 := HRE.out.lit.ok.few; have h3 := HRE.out.lit.ok.len
        exact ⟨h1, by omega, by omega⟩)
      have hlow : ¬ (NX : Int) < (S : Int) := by rw [hNX]; have := HRE.out.low; omega
      have hlowb : decide ((NX : Int) < (S : Int)) = false := decide_eq_false hlow
      have hlowc : decide (NX < S) = false := by simp; omega
      have hhigh : NX ≤ all.length + 1 := by rw [hNX]; exact HRE.out.high
      have hhighb : decide ((all.length : Int) + 1 < (NX : Int)) = false := by simp; omega
      clear hNX
      go_wp2_with fail
      refine (lg_first _ F8 g8 p l' HK8.out.env.lg HPOS.out.1).mono ?_
      rintro e w9 ⟨rfl, rfl⟩
      rw [HRE.out.first]
      go_wp2_with fail
      refine (lg_next _ F8 g8 p l' HK8.out.env.lg HPOS.out.2.1 HPOS.out.2.2).mono ?_
      rintro e w9 ⟨rfl, hb9⟩
      rw [HNX.out]
      have HK9 := Lib.hid (HK8.out.pure hb9)
      clear hb9
      go_wp2_with fail
      refine (lg_next _ F8 g8 p l' HK9.out.env.lg HPOS.out.2.1 HPOS.out.2.2).mono ?_
      rintro e w10 ⟨rfl, hb10⟩
      rw [HNX.out]
      have HK10 := Lib.hid (HK9.out.pure hb10)
      clear hb10
      go_wp2_with fail
      refine (lg_next _ F8 g8 p l' HK10.out.env.lg HPOS.out.2.1 HPOS.out.2.2).mono ?_
      rintro e w11 ⟨rfl, hb11⟩
      rw [HNX.out]
      have HK11 := Lib.hid (HK10.out.pure hb11)
      clear hb11 HK8 HK9 HK10
      by_cases hn : NX = all.length + 1
      · have hcut := HRE.out.cut (by rw [HNX.out]; exact hn)
        have hyes : (all ++ [cut.data.toList]).take NX = l'.all := by rw [hcut.2]; exact List.take_of_length_le (by simp; omega)
        have HY := Lib.hid hyes
        have hE1 : cut.toList.isEmpty = false := by rw [ByteArray.toList_eq, List.isEmpty_eq_false_iff]; exact hcut.1
        have hnb : ((NX : Int) == (all.length : Int) + 1) = true := by simp; omega
        have hnc : ((NX : Int) != (all.length : Int) + 1) = false := by simp; omega
        have hnd : (NX : Int) = (all.length : Int) + 1 := by omega
        have HND := Lib.hid hnd
        have HNE := Lib.hid hn
        have HO11 := Lib.hid (World.ownsRow.alloc HK11.out.own (.cells #[.string cut] 9))
        clear hcut hyes hn hnd
        go_wp2_with (first
          | (refine wpList_append_lies _ rfl _ _ 24 rfl (w.heap.size + 1) 9 i0 _ 1 16 Tryz.underlying24 HI.out HZ0.out HZ1.out HZ2.out rfl (by omega) _ all.length (all.map encStr) rfl HO11.out ⟨w11.heap.size, 0, none⟩ 1 1 [.string cut] rfl rfl (cells_new rfl rfl) (by simp [Value.oneCell']) (by omega) (by unfold maxLen; omega) (by omega) (by have := HK11.out.lt; simp; omega) (w11.heap.size + 1) (by simp) ?_; intro gg cap w12 hown12 hgrow12 hat12 hlt12
             have HK12 := Lib.hid (HK11.out.more hgrow12 rfl hown12 hat12)
             have hcap : all.length + 1 ≤ cap := own_cap hown12
             have hNc : (NX : Int) ≤ (cap : Int) := by have := HNE.out; omega
             have hNd : NX ≤ cap := by omega
             clear hown12 hgrow12 hat12 hlt12))
        have hNX2 : NX ≤ (all ++ [cut.data.toList]).length := by rw [List.length_append, List.length_singleton]; have := HNE.out; omega
        refine (lg_next _ F8 g8 p l' HK12.out.env.lg HPOS.out.2.1 HPOS.out.2.2).mono ?_
        rintro e wa ⟨rfl, hba⟩
        rw [HNX.out]
        have HKa := Lib.hid (HK12.out.pure hba)
        clear hba
        go_wp2_with fail
        refine (lg_next _ F8 g8 p l' HKa.out.env.lg HPOS.out.2.1 HPOS.out.2.2).mono ?_
        rintro e wb ⟨rfl, hbb⟩
        rw [HNX.out]
        have HKb := Lib.hid (HKa.out.pure hbb)
        clear hbb
        go_wp2_with fail
        refine (lg_range_zero _ F8 g8 p b st' l' HKb.out.env HRE.out.lit.on HRE.out.lit.lit NX HRE.out.first HNX.out.symm).mono ?_
        rintro e wc ⟨⟨gv, rfl, hgv⟩, hbc⟩
        have hkc := (HKb.out.pure hbc).shorter (n := NX) hNX2
        obtain ⟨ga, gn, gc, rfl⟩ := own_shape hgv
        rw [HY.out] at hkc
        have HKc := Lib.hid hkc
        have hlA : l'.all.length = NX := by rw [← lit_next HRE.out.lit.ok HRE.out.first, HNX.out]
        have HLA := Lib.hid hlA
        have HTX := Lib.hid (texts_same wc _ _ (l'.all.map fun s => ⟨s.toArray⟩) (own_strs hgv) (own_strs hkc.own) (by rw [List.length_map, hlA]; omega))
        clear hgv hbc hkc hlA
        go_wp2_with fail
        refine HTX.out.mono ?_
        rintro e wd ⟨rfl, hbd⟩
        have HKd := Lib.hid (HKc.out.pure hbd)
        have HRN := Lib.hid (show KpRel st' l' cf l'.all (⟨#[]⟩ : ByteArray).data.toList NX from by rw [← HNX.out]; exact HRE.out.rel)
        clear hbd HTX
        go_wp2_with fail
        refine ⟨⟨k + 1, NX, F8, g8, st', l', l'.all, ⟨#[]⟩, rfl, rfl, rfl, by go_num, by omega, by rw [HLA.out]; omega, HKd, HRN⟩, ?_⟩
        simp [intOf]; omega
      · have hno : all.take NX = l'.all := by have h := HRE.out.all (by rw [HNX.out]; exact hn); rw [HNX.out] at h; exact h.symm
        have hle : NX ≤ all.length := by omega
        have hnb : ((NX : Int) == (all.length : Int) + 1) = false := by simp; omega
        have hnc : ((NX : Int) != (all.length : Int) + 1) = true := by simp; omega
        have hcap := own_cap' HK11.out.own
        have hNc : (NX : Int) ≤ (ac : Int) := by omega
        have hNd : NX ≤ ac := by omega
        go_wp2_with fail
        have HNO := Lib.hid hno
        clear hno
        cases av0 with
        | none =>
          have hz := own_none HK11.out.own
          obtain ⟨hz1, rfl⟩ := hz
          obtain rfl : all = [] := List.eq_nil_of_length_eq_zero hz1
          obtain rfl : NX = 0 := by omega
          clear hz1
          refine (lg_next _ F8 g8 p l' HK11.out.env.lg HPOS.out.2.1 HPOS.out.2.2).mono ?_
          rintro e wa ⟨rfl, hba⟩
          rw [HNX.out]
          have HKa := Lib.hid (HK11.out.pure hba)
          clear hba
          go_wp2_with fail
          refine (lg_next _ F8 g8 p l' HKa.out.env.lg HPOS.out.2.1 HPOS.out.2.2).mono ?_
          rintro e wb ⟨rfl, hbb⟩
          rw [HNX.out]
          have HKb := Lib.hid (HKa.out.pure hbb)
          clear hbb
          go_wp2_with fail
          refine (lg_range_zero _ F8 g8 p b st' l' HKb.out.env HRE.out.lit.on HRE.out.lit.lit 0 HRE.out.first HNX.out.symm).mono ?_
          rintro e wc ⟨⟨gv, rfl, hgv⟩, hbc⟩
          have hkc := (HKb.out.pure hbc).shorter (n := 0) hle
          obtain ⟨ga, gn, gc, rfl⟩ := own_shape hgv
          rw [HNO.out] at hkc
          have HKc := Lib.hid hkc
          have hlA : l'.all.length = 0 := by rw [← lit_next HRE.out.lit.ok HRE.out.first, HNX.out]
          have HLA := Lib.hid hlA
          have HTX := Lib.hid (texts_same wc _ _ (l'.all.map fun s => ⟨s.toArray⟩) (own_strs hgv) (own_strs hkc.own) (by rw [List.length_map, hlA]; omega))
          clear hgv hbc hkc hlA
          go_wp2_with fail
          refine HTX.out.mono ?_
          rintro e wd ⟨rfl, hbd⟩
          have HKd := Lib.hid (HKc.out.pure hbd)
          have HRN := Lib.hid (show KpRel st' l' cf l'.all (⟨#[]⟩ : ByteArray).data.toList 0 from by rw [← HNX.out]; exact HRE.out.rel)
          clear hbd HTX
          go_wp2_with fail
          refine ⟨⟨k + 1, 0, F8, g8, st', l', l'.all, ⟨#[]⟩, rfl, rfl, rfl, by go_num, by omega, by rw [HLA.out]; omega, HKd, HRN⟩, ?_⟩
          simp [intOf]; omega
        | some a0 =>
          obtain ⟨ag, rfl⟩ := own_some0 HK11.out.own
          refine (lg_next _ F8 g8 p l' HK11.out.env.lg HPOS.out.2.1 HPOS.out.2.2).mono ?_
          rintro e wa ⟨rfl, hba⟩
          rw [HNX.out]
          have HKa := Lib.hid (HK11.out.pure hba)
          clear hba
          go_wp2_with fail
          refine (lg_next _ F8 g8 p l' HKa.out.env.lg HPOS.out.2.1 HPOS.out.2.2).mono ?_
          rintro e wb ⟨rfl, hbb⟩
          rw [HNX.out]
          have HKb := Lib.hid (HKa.out.pure hbb)
          clear hbb
          go_wp2_with fail
          refine (lg_range_zero _ F8 g8 p b st' l' HKb.out.env HRE.out.lit.on HRE.out.lit.lit NX HRE.out.first HNX.out.symm).mono ?_
          rintro e wc ⟨⟨gv, rfl, hgv⟩, hbc⟩
          have hkc := (HKb.out.pure hbc).shorter (n := NX) hle
          obtain ⟨ga, gn, gc, rfl⟩ := own_shape hgv
          rw [HNO.out] at hkc
          have HKc := Lib.hid hkc
          have hlA : l'.all.length = NX := by rw [← lit_next HRE.out.lit.ok HRE.out.first, HNX.out]
          have HLA := Lib.hid hlA
          have HTX := Lib.hid (texts_same wc _ _ (l'.all.map fun s => ⟨s.toArray⟩) (own_strs hgv) (own_strs hkc.own) (by rw [List.length_map, hlA]; omega))
          clear hgv hbc hkc hlA
          go_wp2_with fail
          refine HTX.out.mono ?_
          rintro e wd ⟨rfl, hbd⟩
          have HKd := Lib.hid (HKc.out.pure hbd)
          have HRN := Lib.hid (show KpRel st' l' cf l'.all (⟨#[]⟩ : ByteArray).data.toList NX from by rw [← HNX.out]; exact HRE.out.rel)
          clear hbd HTX
          go_wp2_with fail
          refine ⟨⟨k + 1, NX, F8, g8, st', l', l'.all, ⟨#[]⟩, rfl, rfl, rfl, by go_num, by omega, by rw [HLA.out]; omega, HKd, HRN⟩, ?_⟩
          simp [intOf]; omega
    have e5 : (wh % 6 == 5) = false := by simpa using h5
    clear h0 h1 h4 h5
    go_wp2_with fail
    rw [← hw6]
    refine ⟨⟨k + 1, S, F, g, st, l, all, cut, rfl, rfl, rfl, by go_num, by omega, by omega, HK6, HRL⟩, ?_⟩
    simp [intOf]; omega
end Go.Proofs.YtcdjckdbcffgdaaGreatDoor
