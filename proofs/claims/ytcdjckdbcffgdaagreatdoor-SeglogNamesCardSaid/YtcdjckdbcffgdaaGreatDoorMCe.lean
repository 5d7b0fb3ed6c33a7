/- The walks of seg.Name, manif.Names, Find, Same, Size. -/
import Derived.Test.YtcdjckdbcffgdaaGreatDoorMCa
import Derived.Test.YtcdjckdbcffgdaaGreatDoorShelf
import Derived.Lib.ItoaLen
import Derived.Test.YtcdjckdbcffgdaaGreatDoorMAe
import Derived.Test.YtcdjckdbcffgdaaGreatDoorMCb
import Derived.Deep.AppendLies
import Derived.Test.YtcdjckdbcffgdaaGreatDoorMkDk11
namespace Go.Proofs.YtcdjckdbcffgdaaGreatDoor
open Go.RowKit Go.Sort

/-- The table of the powers of ten lies as it was laid. -/
abbrev Pow (w : World) : Prop := Lib.TabIs Tryz.prog w "internal/strconv.uint64pow10" .u64 Lib.pow10Tab
theorem pow_lt {w : World} (h : Pow w) : 3 < w.heap.size := by
  unfold Pow Lib.TabIs World.var? at h
  rw [show Tryz.prog.globalNamed "internal/strconv.uint64pow10" = some 3 from by kernel_rfl] at h
  simp only [Option.bind_some] at h
  rcases Nat.lt_or_ge 3 w.heap.size with h' | h'
  · exact h'
  · rw [Array.getElem?_eq_none h'] at h; cases h
theorem Fr.pow {S : Nat → Prop} {w w' : World} (hf : Fr S w w') (h : Pow w) (hs : ¬ S 3) : Pow w' := by
  have hl := pow_lt h
  unfold Pow Lib.TabIs World.var? at h ⊢
  rw [show Tryz.prog.globalNamed "internal/strconv.uint64pow10" = some 3 from by kernel_rfl] at h ⊢
  simp only [Option.bind_some] at h ⊢
  rw [hf.block _ hl hs]; exact h
theorem below_pow {w w' : World} (hb : Below w.heap.size w w') (h : Pow w) : Pow w' := (Fr.pure (S := fun _ => False) hb).pow h (fun h => h)

def zeros (n : Nat) : List UInt8 := List.replicate n 48
theorem repeat_zeros (c : Nat) : Lib.repeatL [48] c = zeros c := by
  induction c with
  | zero => rfl
  | succ c ih => unfold Lib.repeatL zeros; rw [ih, List.replicate_succ]; rfl
def padded (n : Int) (d : Nat) : List UInt8 := zeros (d - (Lib.itoa n).length) ++ Lib.itoa n

set_option maxRecDepth 100000 in
set_option maxHeartbeats 1000000 in
theorem padded_any (w : World) (hp : Pow w) (n : Int) (h0 : -9223372036854775808 ≤ n) (h1 : n ≤ 9223372036854775807) (d : Nat) (hd : d ≤ 100) :
    Calls Tryz.prog 87 #[.int .i64 n, .int .i64 d] w fun e w' => (∃ r : ByteArray, r.data.toList = padded n d ∧ e = .returned (.string r)) ∧ Below w.heap.size w w' := by
  have HP := Lib.hid hp
  clear hp
  go_enter Tryz.func87, Tryz.ntmps87
  go_wp2_with fail
  refine (Tryz.strconv_FormatInt_10 n h0 h1 w HP.out).mono ?_
  rintro e w1 ⟨rfl, k, os, hw1⟩
  have hb1 : Below w.heap.size w w1 := by rw [hw1]; exact ⟨rfl, rfl, rfl, by simp [grow, World.drewN], fun j hj => by simp [grow, World.drewN, Array.getElem?_append, hj]⟩
  clear hw1
  obtain ⟨t, ht⟩ : ∃ t : ByteArray, t = ⟨(Lib.itoa n).toArray⟩ := ⟨_, rfl⟩
  rw [← ht]
  have htl := Lib.hid (show t.data.toList = Lib.itoa n from by rw [ht])
  clear ht
  have hts : t.size ≤ 21 := by rw [size_of_list htl.out]; exact Lib.itoa_length_le n h0 h1
  have hw2 : IntKind.i64.wrap ((d : Int) - (t.size : Int)) = (d : Int) - (t.size : Int) := IntWalk.i64_in _ (by omega)
  go_wp2_with fail
  rw [show max (0 : Int) ((d : Int) - (t.size : Int)) = ((d - t.size : Nat) : Int) from by omega]
  refine (Tryz.strings_Repeat ⟨#[48]⟩ (d - t.size) w1 (by omega) (by show 1 * (d - t.size) ≤ _; omega)).mono ?_
  rintro e w2 ⟨rfl, hb2⟩
  obtain ⟨z, hz⟩ : ∃ z : ByteArray, z = ⟨(Lib.repeatL (⟨#[48]⟩ : ByteArray).data.toList (d - t.size)).toArray⟩ := ⟨_, rfl⟩
  rw [← hz]
  have hzl := Lib.hid (show z.data.toList = zeros (d - t.size) from by rw [hz]; exact repeat_zeros _)
  clear hz
  have hzs : z.size ≤ 100 := by rw [size_of_list hzl.out]; unfold zeros; rw [List.length_replicate]; omega
  have hcat : z.size + t.size ≤ 9223372036854775807 := by omega
  have HB := Lib.hid (hb1.trans (hb2.mono hb1.size))
  clear hb1 hb2
  go_wp2
  go_ret
  refine ⟨⟨z ++ t, ?_, rfl⟩, HB.out⟩
  have e1 : (z ++ t).data.toList = z.data.toList ++ t.data.toList := by simp
  rw [e1, hzl.out, htl.out]
  unfold padded
  rw [← htl.out, size_toList]

def numberB (f : Int) : Bool := decide (0 ≤ f) && decide (f ≤ 1048576)
set_option maxRecDepth 100000 in
theorem number_any (w : World) (f : Int) : Calls Tryz.prog 83 #[.int .i64 f] w fun e w' => e = .returned (.bool (numberB f)) ∧ w = w' := by
  by_cases h0 : 0 ≤ f
  · by_cases h1 : f ≤ 1048576
    · go_enter Tryz.func83, Tryz.ntmps83
      go_wp2
      go_ret
      exact ⟨ret_bool (by unfold numberB; simp [h0, h1]), rfl⟩
    · go_enter Tryz.func83, Tryz.ntmps83
      go_wp2
      go_ret
      exact ⟨ret_bool (by unfold numberB; simp [h1]), rfl⟩
  · go_enter Tryz.func83, Tryz.ntmps83
    go_wp2
    go_ret
    exact ⟨ret_bool (by unfold numberB; simp; omega), rfl⟩

/-- A segment's file's name. -/
def segName (g f : Int) : List UInt8 := if 0 ≤ g ∧ g ≤ 99999999 ∧ 0 ≤ f ∧ f ≤ 1048576 then 115 :: (padded g 8 ++ 45 :: padded f 10) else []

theorem padded_length (n : Int) (d : Nat) (h0 : -9223372036854775808 ≤ n) (h1 : n ≤ 9223372036854775807) : (padded n d).length ≤ d + 21 := by
  unfold padded zeros
  have := Lib.itoa_length_le n h0 h1
  rw [List.length_append, List.length_replicate]; omega

set_option maxRecDepth 100000 in
set_option maxHeartbeats 1000000 in
theorem name_any (w : World) (hp : Pow w) (g f : Int) :
    Calls Tryz.prog 42 #[.int .i64 g, .int .i64 f] w fun e w' => (∃ r : ByteArray, r.data.toList = segName g f ∧ e = .returned (.string r)) ∧ Below w.heap.size w w' := by
  have HP := Lib.hid hp
  clear hp
  by_cases h0 : g < 0
  · have hE := Lib.hid (show segName g f = [] from by unfold segName; rw [if_neg (by omega)])
    go_enter Tryz.func42, Tryz.ntmps42
    go_wp2
    go_ret
    exact ⟨⟨⟨#[]⟩, by rw [hE.out], rfl⟩, Below.refl _ _⟩
  · by_cases h1 : 99999999 < g
    · have hE := Lib.hid (show segName g f = [] from by unfold segName; rw [if_neg (by omega)])
      go_enter Tryz.func42, Tryz.ntmps42
      go_wp2
      go_ret
      exact ⟨⟨⟨#[]⟩, by rw [hE.out], rfl⟩, Below.refl _ _⟩
    · cases hn : numberB f
      · have hE := Lib.hid (show segName g f = [] from by unfold segName; rw [if_neg (by unfold numberB at hn; simp at hn; omega)])
        go_enter Tryz.func42, Tryz.ntmps42
        go_wp2_with fail
        refine (number_any _ f).mono ?_
        rintro e w1 ⟨rfl, rfl⟩
        rw [hn]
        go_wp2
        go_ret
        exact ⟨⟨⟨#[]⟩, by rw [hE.out], rfl⟩, Below.refl _ _⟩
      · have hf : 0 ≤ f ∧ f ≤ 1048576 := by unfold numberB at hn; simp at hn; exact hn
        obtain ⟨hf0, hf1⟩ := hf
        have hE := Lib.hid (show segName g f = 115 :: (padded g 8 ++ 45 :: padded f 10) from by unfold segName; rw [if_pos ⟨by omega, by omega, hf0, hf1⟩])
        go_enter Tryz.func42, Tryz.ntmps42
        go_wp2_with fail
        refine (number_any _ f).mono ?_
        rintro e w1 ⟨rfl, rfl⟩
        rw [hn]
        go_wp2_with fail
        refine (padded_any w HP.out g (by omega) (by omega) 8 (by omega)).mono ?_
        rintro e w1 ⟨⟨r1, hr1, rfl⟩, hb1⟩
        have hl1 : r1.size ≤ 29 := by rw [size_of_list hr1]; exact padded_length g 8 (by omega) (by omega)
        have HR1 := Lib.hid hr1
        clear hr1
        have hq1 : (⟨#[115]⟩ : ByteArray).size + r1.size ≤ 9223372036854775807 := by show 1 + r1.size ≤ _; omega
        have hq1' : 1 + r1.size ≤ 9223372036854775807 := by omega
        go_wp2_with fail
        refine (padded_any w1 (below_pow hb1 HP.out) f (by omega) (by omega) 10 (by omega)).mono ?_
        rintro e w2 ⟨⟨r2, hr2, rfl⟩, hb2⟩
        have hl2 : r2.size ≤ 31 := by rw [size_of_list hr2]; exact padded_length f 10 (by omega) (by omega)
        have HR2 := Lib.hid hr2
        have HB := Lib.hid (hb1.trans (hb2.mono hb1.size))
        have hq2 : 1 + r1.size + 1 + r2.size ≤ 9223372036854775807 := by omega
        clear hr2 hb1 hb2
        go_wp2
        go_ret
        refine ⟨⟨_, ?_, rfl⟩, HB.out⟩
        rw [hE.out, ← HR1.out, ← HR2.out]
        simp

theorem box2_below' (w : World) (o1 o2 : Obj) : Below w.heap.size w ((w.alloc o1).alloc o2) := ((Below.refl _ _).alloc (Nat.le_refl _) _).alloc (by simp) _

/-- The place of the segment that has a batch. -/
def findGo (q : Int) : Nat → Int → Segs → Int
  | _, at', [] => at'
  | k, at', (_, f) :: r => findGo q (k + 1) (if f ≤ q then (k : Int) else at') r
def findB (l : Segs) (q : Int) : Int := findGo q 0 (-1) l
theorem findGo_step {q a : Int} {l : Segs} {k : Nat} (hk : k < l.length) : findGo q k a (l.drop k) = findGo q (k + 1) (if l[k].2 ≤ q then (k : Int) else a) (l.drop (k + 1)) := by
  rw [List.drop_eq_getElem_cons hk]; rfl

set_option maxRecDepth 100000 in
set_option maxHeartbeats 2000000 in
theorem find_any (w : World) (g : Int) (sv : Value) (l : Segs) (hs : SegsAt w sv l) (hl : l.length ≤ 1099511627776) (q : Int) :
    Calls Tryz.prog 116 #[.agg #[.int .i64 g, sv], .int .i64 q] w fun e w' => e = .returned (.int .i64 (findB l q)) ∧ Below w.heap.size w w' := by
  obtain ⟨a, c, rfl⟩ := hs.shape
  have HS := Lib.hid hs
  clear hs
  go_enter Tryz.func116, Tryz.ntmps116
  go_wp2
  go_loopw [5, 11] (fun x i wr => ∃ (k : Nat) (at' : Int), k ≤ l.length ∧ i = .int .i64 k ∧ x = .int .i64 at' ∧ findB l q = findGo q k at' (l.drop k) ∧ Below (w.heap.size + 1) (w.alloc (.cells #[.int .i64 g, .slice a l.length c] 38)) wr) (fun _ i _ => l.length - (intOf i).toNat)
  case atStart => exact ⟨0, -1, by omega, rfl, rfl, rfl, Below.refl _ _⟩
  case round =>
    obtain ⟨k, at', hk, rfl, rfl, hok, hb⟩ := hrel
    have HOK := Lib.hid hok
    clear hok
    have hsz := hb.size
    simp at hsz
    by_cases hlt : k < l.length
    · have HST := Lib.hid (findGo_step (q := q) (a := at') hlt)
      obtain ⟨b, o, rfl, h1, h2, hbl⟩ := HS.out.at k hlt
      have hc1 : wr.cell? ⟨b, o + k * 2, none⟩ = some (.int .i64 l[k].1) := by rw [hb.cell (by show b < _; omega), World.cell?_alloc_past _ _ _ hbl]; exact h1
      have hc2 : wr.cell? ⟨b, o + k * 2 + 1, none⟩ = some (.int .i64 l[k].2) := by rw [hb.cell (by show b < _; omega), World.cell?_alloc_past _ _ _ hbl]; exact h2
      clear h1 h2
      by_cases hF : l[k].2 ≤ q
      · have hgo := Lib.hid (HOK.out.trans (HST.out.trans (by rw [if_pos hF])))
        generalize l[k].1 = A at *
        generalize l[k].2 = F at *
        go_wp2
        go_roundw
        case rel => exact ⟨k + 1, k, by omega, by go_num, rfl, hgo.out, hb.alloc (by omega) _⟩
        case measure => simp [intOf]; omega
      · have hgo := Lib.hid (HOK.out.trans (HST.out.trans (by rw [if_neg hF])))
        generalize l[k].1 = A at *
        generalize l[k].2 = F at *
        go_wp2
        go_roundw
        case rel => exact ⟨k + 1, at', by omega, by go_num, rfl, hgo.out, hb.alloc (by omega) _⟩
        case measure => simp [intOf]; omega
    · have HE := Lib.hid (show findB l q = at' from by rw [HOK.out, List.drop_eq_nil_of_le (by omega)]; rfl)
      go_wp2
      go_ret
      exact ⟨ret_int HE.out.symm, below_box hb⟩

set_option maxRecDepth 100000 in
set_option maxHeartbeats 2000000 in
theorem equal_any (w : World) (sa sb : Value) (x y : Segs) (hx : SegsAt w sa x) (hy : SegsAt w sb y) (hlx : x.length ≤ 1099511627776) (hly : y.length ≤ 1099511627776) :
    Calls Tryz.prog 62 #[sa, sb] w fun e w' => e = .returned (.bool (x == y)) ∧ Below w.heap.size w w' := by
  obtain ⟨a, c, rfl⟩ := hx.shape
  obtain ⟨b, d, rfl⟩ := hy.shape
  have HX := Lib.hid hx
  have HY := Lib.hid hy
  clear hx hy
  by_cases hl : x.length = y.length
  · go_enter Tryz.func62, Tryz.ntmps62
    go_wp2
    go_loopw [13] (fun i wr => ∃ k : Nat, k ≤ x.length ∧ i = .int .i64 k ∧ x.take k = y.take k ∧ Below w.heap.size w wr) (fun i _ => x.length - (intOf i).toNat)
    case atStart => exact ⟨0, by omega, rfl, rfl, Below.refl _ _⟩
    case round =>
      obtain ⟨k, hk, rfl, ht, hb⟩ := hrel
      have HT := Lib.hid ht
      clear ht
      by_cases hlt : k < x.length
      · have hlt2 : k < y.length := by omega
        obtain ⟨b1, o1, rfl, h1, h2, hbl1⟩ := HX.out.at k hlt
        obtain ⟨b2, o2, rfl, h3, h4, hbl2⟩ := HY.out.at k hlt2
        have c1 := (hb.cell (p := ⟨b1, o1 + k * 2, none⟩) hbl1).trans h1
        have c2 := (hb.cell (p := ⟨b1, o1 + k * 2 + 1, none⟩) hbl1).trans h2
        have c3 := (hb.cell (p := ⟨b2, o2 + k * 2, none⟩) hbl2).trans h3
        have c4 := (hb.cell (p := ⟨b2, o2 + k * 2 + 1, none⟩) hbl2).trans h4
        clear h1 h2 h3 h4
        by_cases e1 : x[k].1 = y[k].1
        · by_cases e2 : x[k].2 = y[k].2
          · have hn := Lib.hid (show x.take (k + 1) = y.take (k + 1) from by rw [List.take_succ_eq_append_getElem hlt, List.take_succ_eq_append_getElem hlt2, HT.out, show x[k] = y[k] from Prod.ext e1 e2])
            go_wp2
            go_region
            go_wp2
            go_roundw
            case rel => exact ⟨k + 1, by omega, by go_num, hn.out, hb.drew⟩
            case measure => simp [intOf]; omega
          · have hne := Lib.hid (show (x == y) = false from by
              cases e : x == y
              · rfl
              · have := eq_of_beq e; subst this; exact absurd rfl e2)
            go_wp2
            go_region
            go_wp2
            go_ret
            exact ⟨ret_bool hne.out.symm, hb.drew⟩
        · have hne := Lib.hid (show (x == y) = false from by
            cases e : x == y
            · rfl
            · have := eq_of_beq e; subst this; exact absurd rfl e1)
          go_wp2
          go_region
          go_wp2
          go_ret
          exact ⟨ret_bool hne.out.symm, hb.drew⟩
      · have heq := Lib.hid (show (x == y) = true from by
          have h1 := HT.out
          rw [show k = x.length from by omega, List.take_length, hl, List.take_length] at h1
          rw [h1]; simp)
        go_wp2
        go_ret
        exact ⟨ret_bool heq.out.symm, hb⟩
  · have hne : (x == y) = false := by
      cases e : x == y
      · rfl
      · exact absurd (by rw [eq_of_beq e]) hl
    go_enter Tryz.func62, Tryz.ntmps62
    go_wp2
    go_ret
    exact ⟨ret_bool hne.symm, Below.refl _ _⟩

set_option maxRecDepth 100000 in
set_option maxHeartbeats 1000000 in
theorem same_any (w : World) (g h : Int) (sa sb : Value) (x y : Segs) (hx : SegsAt w sa x) (hy : SegsAt w sb y) (hlx : x.length ≤ 1099511627776) (hly : y.length ≤ 1099511627776) :
    Calls Tryz.prog 18 #[.agg #[.int .i64 g, sa], .agg #[.int .i64 h, sb]] w fun e w' => e = .returned (.bool (decide (g = h) && x == y)) ∧ Below w.heap.size w w' := by
  have hbz := box2_below' w (.cells #[.int .i64 g, sa] 38) (.cells #[.int .i64 h, sb] 38)
  have HX := Lib.hid (hx.pure hbz)
  have HY := Lib.hid (hy.pure hbz)
  have HB := Lib.hid hbz
  clear hx hy hbz
  by_cases hg : g = h
  · subst hg
    go_enter Tryz.func18, Tryz.ntmps18
    go_wp2_with fail
    refine (equal_any _ sa sb x y HX.out HY.out hlx hly).mono ?_
    rintro e w1 ⟨rfl, hb1⟩
    have HB1 := Lib.hid (HB.out.trans (hb1.mono (by simp; omega)))
    clear hb1
    go_wp2
    go_ret
    exact ⟨ret_bool (by simp), HB1.out⟩
  · go_enter Tryz.func18, Tryz.ntmps18
    go_wp2
    go_ret
    exact ⟨ret_bool (by simp [hg]), HB.out⟩

def sizeB (n : Int) : Int := if n < 1 ∨ 64 < n then 0 else 18 + 16 * n
set_option maxRecDepth 100000 in
theorem size_any (w : World) (n : Int) (h0 : -9223372036854775808 ≤ n) (h1 : n ≤ 9223372036854775807) :
    Calls Tryz.prog 105 #[.int .i64 n] w fun e w' => e = .returned (.int .i64 (sizeB n)) ∧ w = w' := by
  by_cases ha : n < 1
  · have HS := Lib.hid (show sizeB n = 0 from by unfold sizeB; rw [if_pos (.inl ha)])
    go_enter Tryz.func105, Tryz.ntmps105
    go_wp2
    go_ret
    exact ⟨ret_int HS.out.symm, rfl⟩
  · by_cases hb : 64 < n
    · have HS := Lib.hid (show sizeB n = 0 from by unfold sizeB; rw [if_pos (.inr hb)])
      go_enter Tryz.func105, Tryz.ntmps105
      go_wp2
      go_ret
      exact ⟨ret_int HS.out.symm, rfl⟩
    · have HS := Lib.hid (show sizeB n = 18 + 16 * n from by unfold sizeB; rw [if_neg (by omega)])
      go_enter Tryz.func105, Tryz.ntmps105
      go_wp2
      go_ret
      exact ⟨ret_int HS.out.symm, rfl⟩

end Go.Proofs.YtcdjckdbcffgdaaGreatDoor

/- The walk of manif.Names. -/
namespace Go.Proofs.YtcdjckdbcffgdaaGreatDoor
open Go.RowKit Go.Sort Go.Shelf

theorem Tryz.infoStr : (Tryz.prog.info? 9).map (fun i => (i.zero, i.size, i.bytes)) = some (some (.string ⟨#[]⟩), 1, 16) := by kernel_rfl

theorem own_ge {w : World} {base : Nat} {e : TypeId} {size : Nat} {v : Value} {n : Nat} {xs : List Value} (h : w.ownsRow base e size v n xs) {g : Nat} (hg : v.ownBlock = some g) : base ≤ g := by
  obtain ⟨_, ⟨rfl, _⟩ | ⟨g', cap, cur, rfl, hb, _⟩⟩ := h
  · cases hg
  · cases hg; exact hb

def nameOf (x : Int × Int) : List UInt8 := segName x.1 x.2

set_option maxRecDepth 100000 in
set_option maxHeartbeats 2000000 in
theorem names_bad (w : World) (g : Int) (sv : Value) (l : Segs) (hs : SegsAt w sv l) (hl : l.length ≤ 1099511627776) (hm : mayB g l = false) :
    Calls Tryz.prog 120 #[.agg #[.int .i64 g, sv]] w fun e w' => e = .returned (.slice none 0 0) ∧ Below w.heap.size w w' := by
  have hbz : Below w.heap.size w (w.alloc (.cells #[.int .i64 g, sv] 38)) := (Below.refl _ _).alloc (Nat.le_refl _) _
  have HS := Lib.hid (hs.pure hbz)
  have HM := Lib.hid hm
  have HB := Lib.hid hbz
  clear hs hm hbz
  go_enter Tryz.func120, Tryz.ntmps120
  go_wp2_with fail
  refine (may_any _ g sv l HS.out hl).mono ?_
  rintro e w1 ⟨rfl, hb1⟩
  rw [HM.out]
  have HB1 := Lib.hid (HB.out.trans (hb1.mono (by simp)))
  clear hb1
  go_wp2
  go_ret
  exact ⟨rfl, HB1.out⟩

set_option maxRecDepth 100000 in
set_option maxHeartbeats 2000000 in
theorem names_ok (w : World) (hp : Pow w) (g : Int) (sv : Value) (l : Segs) (hs : SegsAt w sv l) (hm : mayB g l = true) :
    Calls Tryz.prog 120 #[.agg #[.int .i64 g, sv]] w fun e w' => ∃ v, e = .returned v ∧ Below w.heap.size w w' ∧ w'.ownsRow (w.heap.size + 1) 9 1 v l.length ((l.map nameOf).map encStr) := by
  obtain ⟨a, c, rfl⟩ := hs.shape
  obtain ⟨hg0, hg1, hl0, hl1, hall⟩ := mayB_all hm
  have hbz : Below w.heap.size w (w.alloc (.cells #[.int .i64 g, .slice a l.length c] 38)) := (Below.refl _ _).alloc (Nat.le_refl _) _
  have HS := Lib.hid hs
  have HS1 := Lib.hid (hs.pure hbz)
  have HM := Lib.hid hm
  have HB := Lib.hid hbz
  have HP := Lib.hid hp
  have hpl := pow_lt hp
  have HA := Lib.hid hall
  clear hs hm hbz hp hall
  go_enter Tryz.func120, Tryz.ntmps120
  go_wp2_with fail
  refine (may_any _ g _ l HS1.out (by omega)).mono ?_
  rintro e w1 ⟨rfl, hb1⟩
  rw [HM.out]
  have HB1 := Lib.hid (show Below (w.heap.size + 1) (w.alloc (.cells #[.int .i64 g, .slice a l.length c] 38)) w1 from hb1.mono (by simp))
  have hc4 : w1.cell? ⟨w.heap.size, 1, none⟩ = some (.slice a l.length c) := by rw [hb1.cell (by simp), World.cell?_alloc_at _ _ _ _ rfl]; rfl
  have hs1 := hb1.size
  simp at hs1
  clear hb1
  go_wp2
  go_loopw [3, 12] (fun v i wr => ∃ k : Nat, k ≤ l.length ∧ i = .int .i64 k ∧ wr.ownsRow (w.heap.size + 1) 9 1 v k (((l.take k).map nameOf).map encStr) ∧ Below (w.heap.size + 1) (w.alloc (.cells #[.int .i64 g, .slice a l.length c] 38)) wr) (fun _ i _ => l.length - (intOf i).toNat)
  case atStart => exact ⟨0, by omega, rfl, World.ownsRow_nil _ _ _ _, HB1.out⟩
  case round =>
    obtain ⟨k, hk, rfl, hown, hb⟩ := hrel
    have hsz := hb.size
    simp at hsz
    by_cases hlt : k < l.length
    · obtain ⟨b, o, rfl, h1, h2, hbl⟩ := HS.out.at k hlt
      have hc1 : wr.cell? ⟨b, o + k * 2, none⟩ = some (.int .i64 l[k].1) := by rw [hb.cell (by show b < _; omega), World.cell?_alloc_past _ _ _ hbl]; exact h1
      have hc2 : wr.cell? ⟨b, o + k * 2 + 1, none⟩ = some (.int .i64 l[k].2) := by rw [hb.cell (by show b < _; omega), World.cell?_alloc_past _ _ _ hbl]; exact h2
      clear h1 h2
      have hpw := Lib.hid (below_pow ((Below.refl wr.heap.size wr).alloc (Nat.le_refl _) (.cells #[.int .i64 l[k].1, .int .i64 l[k].2] 76)) ((Fr.of_below hb).pow (((Fr.refl (fun _ => False) w).alloc _).pow HP.out (fun h => h)) (by omega)))
      have HO := Lib.hid hown
      clear hown
      go_wp2_with fail
      refine (name_any _ hpw.out l[k].1 l[k].2).mono ?_
      rintro e w3 ⟨⟨r, hr, rfl⟩, hb3⟩
      have HR := Lib.hid (show Value.string r = encStr (nameOf l[k]) from by unfold encStr nameOf; rw [← hr])
      have hb4 : Below wr.heap.size wr w3 := ((Below.refl wr.heap.size wr).alloc (Nat.le_refl _) _).trans (hb3.mono (by simp))
      have hs3 := hb4.size
      have HO4 := Lib.hid (((Fr.pure (S := fun _ => False) hb4).ownsRow HO.out (fun _ _ h => h)).alloc (.cells #[.string r] 9))
      have HB4 := Lib.hid hb4
      clear hr hb3 hb4
      obtain ⟨i0, hi, hz0, hz1, hz2⟩ := info_parts Tryz.infoStr
      have HI := Lib.hid hi
      have HZ0 := Lib.hid hz0
      have HZ1 := Lib.hid hz1
      have HZ2 := Lib.hid hz2
      clear hi hz0 hz1 hz2
      go_wp2_with (first
        | (refine wpList_append_lies _ rfl _ _ 24 rfl (w.heap.size + 1) 9 i0 _ 1 16 Tryz.underlying24 HI.out HZ0.out HZ1.out HZ2.out rfl (by omega) _ k _ rfl HO4.out ⟨w3.heap.size, 0, none⟩ 1 1 [.string r] rfl rfl (cells_new rfl rfl) (by simp [Value.oneCell']) (by omega) (by unfold maxLen; omega) (by omega) (by simp; omega) (w3.heap.size + 1) (by simp) ?_; intro gg cap w8 hown8 hgrow8 hat8 hlt8))
      go_roundw
      case rel =>
        refine ⟨k + 1, by omega, by go_num, ?_, ?_⟩
        · rw [List.take_succ_eq_append_getElem hlt, List.map_append, List.map_append, List.map_cons, List.map_cons, List.map_nil, List.map_nil, ← HR.out]; exact hown8
        · exact ((hb.trans (HB4.out.mono hsz)).alloc (by omega) _).grown hgrow8 (by simp; omega) (fun j e => own_ge HO4.out (by exact e))
      case measure => simp [intOf]; omega
    · have hkl : k = l.length := by omega
      have HO := Lib.hid hown
      clear hown
      go_wp2
      go_ret
      have ho := HO.out
      rw [hkl, List.take_length] at ho
      exact ⟨_, rfl, below_box hb, ho⟩

end Go.Proofs.YtcdjckdbcffgdaaGreatDoor

/- The walk of Files. -/
namespace Go.Proofs.YtcdjckdbcffgdaaGreatDoor
open Go.RowKit Go.Maps Go.Sort

/-- Files as cells. -/
def fileCells (l : Fs) : List Value := l.flatMap fun f => [encStr f.name, encStr f.firm, encStr f.pend]
theorem fileCells_length (l : Fs) : (fileCells l).length = l.length * 3 := by
  induction l with
  | nil => rfl
  | cons x l ih => simp only [fileCells, List.flatMap_cons, List.length_append, List.length_cons, List.length_nil] at ih ⊢; omega
theorem fileCells_get (l : Fs) (i : Nat) (h : i < l.length) : (fileCells l)[i * 3]? = some (encStr l[i].name) ∧ (fileCells l)[i * 3 + 1]? = some (encStr l[i].firm) ∧ (fileCells l)[i * 3 + 2]? = some (encStr l[i].pend) := by
  induction l generalizing i with
  | nil => simp at h
  | cons x l ih =>
    rcases i with _ | i
    · simp [fileCells]
    · have := ih i (by simpa using h)
      simp only [fileCells, List.flatMap_cons, List.getElem_cons_succ] at this ⊢
      rw [show (i + 1) * 3 = i * 3 + 1 + 1 + 1 from by omega]
      simpa using this
theorem fileCells_snoc (l : Fs) (f : FileS) : fileCells (l ++ [f]) = fileCells l ++ [encStr f.name, encStr f.firm, encStr f.pend] := by simp [fileCells]

/-- A slice that the call owns, and that holds files. -/
def OwnFiles (w : World) (v : Value) (l : Fs) : Prop := w.ownsRow 0 69 3 v l.length (fileCells l)
theorem enc_data (l : List UInt8) : (⟨l.toArray⟩ : ByteArray).data.toList = l := by simp
theorem OwnFiles.at {w : World} {v : Value} {l : Fs} (h : OwnFiles w v l) : FilesAt w v l := by
  rcases h.2 with ⟨hv, hn⟩ | ⟨g, cap, cur, hv, hh⟩
  · exact ⟨none, 0, by rw [hv, hn], .inl (List.eq_nil_of_length_eq_zero hn)⟩
  · subst hv
    refine ⟨_, cap, rfl, .inr ⟨g, 0, rfl, fun i hi => ?_⟩⟩
    obtain ⟨h1, h2, h3⟩ := fileCells_get l i hi
    refine ⟨_, _, _, enc_data _, enc_data _, enc_data _, ?_⟩
    rw [Nat.zero_add, World.ownsRow.cellAt h (i * 3) (by omega), World.ownsRow.cellAt h (i * 3 + 1) (by omega), World.ownsRow.cellAt h (i * 3 + 2) (by omega)]
    exact ⟨h1, h2, h3⟩
theorem FilesAt.kept {S : Nat → Prop} {w w' : World} {sv : Value} {l : Fs} (h : FilesAt w sv l) (hf : Fr S w w') (hs : ∀ g, sv.ownBlock = some g → ¬ S g) : FilesAt w' sv l := by
  obtain ⟨a, c, rfl, h | ⟨b, o, rfl, h⟩⟩ := h
  · exact ⟨a, c, rfl, .inl h⟩
  · refine ⟨_, c, rfl, .inr ⟨b, o, rfl, fun i hi => ?_⟩⟩
    obtain ⟨x, y, z, e1, e2, e3, h1, h2, h3⟩ := h i hi
    exact ⟨x, y, z, e1, e2, e3, hf.cellAt h1 (hs b rfl), hf.cellAt h2 (hs b rfl), hf.cellAt h3 (hs b rfl)⟩
theorem FilesAt.pure {w w' : World} {sv : Value} {l : Fs} (h : FilesAt w sv l) (hb : Below w.heap.size w w') : FilesAt w' sv l := h.kept (Fr.pure (S := fun _ => False) hb) (fun _ _ h => h)
theorem Tryz.infoFile : (Tryz.prog.info? 69).map (fun i => (i.zero, i.size, i.bytes)) = some (some (.agg #[.string ⟨#[]⟩, .string ⟨#[]⟩, .string ⟨#[]⟩]), 3, 48) := by kernel_rfl

theorem enc_of {x : ByteArray} {l : List UInt8} (h : x.data.toList = l) : Value.string x = encStr l := by unfold encStr; rw [← h]

set_option maxRecDepth 100000 in
set_option maxHeartbeats 2000000 in
theorem dk_files (w : World) (p b : Nat) (st : DkSt) (h : IsDk w p b st) :
    Calls Tryz.prog 10 #[.pointer (some ⟨p, 0, none⟩)] w fun e w' => ∃ v, e = .returned v ∧ OwnFiles w' v st.fs ∧ (∀ g, v.ownBlock = some g → w.heap.size ≤ g) ∧ Below w.heap.size w w' := by
  have H := Lib.hid h
  have hp := h.lt
  have hbl := h.own.lt
  have hfew := h.ok.fs.few
  clear h
  go_enter Tryz.func10, Tryz.ntmps10
  go_wp2_with fail
  refine (dk_names w p b st H.out).mono ?_
  rintro e w1 ⟨v, rfl, hown, hb1⟩
  obtain ⟨ga, gc, rfl, _, hrow⟩ := row_names hown
  have HR := Lib.hid hrow
  have HB1 := Lib.hid hb1
  have hs1 := hb1.size
  clear hown hrow hb1
  rename_i hnl
  clear hnl
  go_wp2
  go_loopw [3, 12] (fun v i wr => ∃ k : Nat, i = .int .i64 k ∧ k ≤ st.fs.length ∧ wr.ownsRow w1.heap.size 69 3 v k (fileCells (st.fs.take k)) ∧ Below w1.heap.size w1 wr) (fun _ i _ => st.fs.length - (intOf i).toNat)
  case atStart => exact ⟨0, rfl, by omega, World.ownsRow_nil _ _ _ _, Below.refl _ _⟩
  case round =>
    obtain ⟨k, rfl, hk, hown, hb⟩ := hrel
    have hsz := hb.size
    obtain ⟨a0, n0, c0, rfl⟩ := own_shape hown
    have HO := Lib.hid hown
    have HB := Lib.hid hb
    clear hown hb
    by_cases hlt : k < st.fs.length
    · obtain ⟨g, rfl, hg, hcell⟩ := HR.out k (by simpa using hlt)
      have hcell := (HB.out.cell (p := ⟨g, k, none⟩) (ltOfCell hcell)).trans hcell
      rw [List.getElem_map] at hcell
      have hdk : IsDk wr p b st := H.out.pure (HB1.out.trans (HB.out.mono HB1.out.size))
      have hmem : fsGet st.fs st.fs[k].name = some st.fs[k] := by
        have e : st.fs = st.fs.take k ++ st.fs[k] :: st.fs.drop (k + 1) := by rw [List.getElem_cons_drop, List.take_append_drop]
        have := get_mid (A := st.fs.take k) (f := st.fs[k]) (B := st.fs.drop (k + 1)) (by rw [← e]; exact hdk.ok.fs.sorted)
        rw [← e] at this; exact this
      have hname := hdk.ok.fs.names st.fs[k] (List.getElem_mem hlt)
      obtain ⟨x, hx⟩ : ∃ x : ByteArray, x = ⟨st.fs[k].name.toArray⟩ := ⟨_, rfl⟩
      have hxl : x.data.toList = st.fs[k].name := by rw [hx]
      rw [← hx] at hcell
      obtain ⟨f1, f2, hlook, hgot⟩ := look_plain wr b st.fs hdk.own x (by have := size_of_list hxl; unfold maxLen; omega)
      unfold GotFile at hgot
      rw [hxl, hmem] at hgot
      have E := Lib.hid (And.intro (enc_of hxl) (And.intro (enc_of hgot.1) (enc_of hgot.2)))
      obtain ⟨d0, d1, d2, d3⟩ := hdk.cs
      have HO1 := Lib.hid ((HO.out.alloc (.cells #[.string f1, .string f2] 103)).alloc (.cells #[.string x, .string f1, .string f2] 69))
      obtain ⟨i0, hi, hz0, hz1, hz2⟩ := info_parts Tryz.infoFile
      have HI := Lib.hid hi
      have HZ0 := Lib.hid hz0
      have HZ1 := Lib.hid hz1
      have HZ2 := Lib.hid hz2
      clear hi hz0 hz1 hz2 hx hxl hgot hmem hdk d1 d2 d3
      go_wp2_with (first
        | (refine wpList_append_lies _ rfl _ _ 33 rfl w1.heap.size 69 i0 _ 3 48 Tryz.underlying33 HI.out HZ0.out HZ1.out HZ2.out rfl (by omega) _ k _ rfl HO1.out ⟨wr.heap.size + 1, 0, none⟩ 1 1 [.string x, .string f1, .string f2] rfl rfl (cells_new rfl (by simp)) (by simp [Value.oneCell']) (by omega) (by unfold maxLen; omega) (by omega) (by simp; omega) (wr.heap.size + 1 + 1) (by simp) ?_; intro gg cap w8 hown8 hgrow8 hat8 hlt8))
      go_roundw
      case rel =>
        refine ⟨k + 1, by go_num, by omega, ?_, ?_⟩
        · rw [List.take_succ_eq_append_getElem hlt, fileCells_snoc, ← E.out.1, ← E.out.2.1, ← E.out.2.2]; exact hown8
        · exact ((HB.out.alloc hsz _).alloc (by simp; omega) _).grown hgrow8 (by simp; omega) (fun j e => own_ge HO.out (by exact e))
      case measure => simp [intOf]; omega
    · have hkl : k = st.fs.length := by omega
      go_wp2
      go_ret
      have ho := HO.out
      rw [hkl, List.take_length] at ho
      exact ⟨_, rfl, ownsRow_base ho (fun _ _ => Nat.zero_le _), fun j e => by have := own_ge ho e; omega, HB1.out.trans (HB.out.mono HB1.out.size)⟩

end Go.Proofs.YtcdjckdbcffgdaaGreatDoor
