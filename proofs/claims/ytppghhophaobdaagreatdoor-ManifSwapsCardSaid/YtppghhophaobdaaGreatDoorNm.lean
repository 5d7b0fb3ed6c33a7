/- The walks of seg.Name, manif.Names, Find, Same, Size. -/
import Derived.Test.YtppghhophaobdaaGreatDoorMan
import Derived.Test.YtppghhophaobdaaGreatDoorShelf
import Derived.Lib.ItoaLen
namespace Go.Proofs.YtppghhophaobdaaGreatDoor
open Go.RowKit Go.Sort

/-- The table of the powers of ten lies as it was laid. -/
abbrev Pow (w : World) : Prop := Lib.TabIs Tryz.prog w "internal/strconv.uint64pow10" .u64 Lib.pow10Tab
theorem pow_lt {w : World} (h : Pow w) : 5 < w.heap.size := by
  unfold Pow Lib.TabIs World.var? at h
  rw [show Tryz.prog.globalNamed "internal/strconv.uint64pow10" = some 5 from by kernel_rfl] at h
  simp only [Option.bind_some] at h
  rcases Nat.lt_or_ge 5 w.heap.size with h' | h'
  · exact h'
  · rw [Array.getElem?_eq_none h'] at h; cases h
theorem Fr.pow {S : Nat → Prop} {w w' : World} (hf : Fr S w w') (h : Pow w) (hs : ¬ S 5) : Pow w' := by
  have hl := pow_lt h
  unfold Pow Lib.TabIs World.var? at h ⊢
  rw [show Tryz.prog.globalNamed "internal/strconv.uint64pow10" = some 5 from by kernel_rfl] at h ⊢
  simp only [Option.bind_some] at h ⊢
  rw [hf.block _ hl hs]; exact h
theorem below_pow {w w' : World} (hb : Below w.heap.size w w') (h : Pow w) : Pow w' := (Fr.pure (S := fun _ => False) hb).pow h (fun h => h)

def zeros (n : Nat) : List UInt8 := List.replicate n 48
theorem repeat_zeros (c : Nat) : Lib.repeatL [48] c = zeros c := by
  induction c with
  | zero => rfl
  | succ c ih => unfold Lib.repeatL zeros; rw [ih, List.replicate_succ]; rfl
def padded (n : Int) (d : Nat) : List UInt8 := zeros (d - (Lib.itoa n).length) ++ Lib.itoa n

set_option maxRecDepth 100000 in
set_option maxHeartbeats 1000000 in
theorem padded_any (w : World) (hp : Pow w) (n : Int) (h0 : -9223372036854775808 ≤ n) (h1 : n ≤ 9223372036854775807) (d : Nat) (hd : d ≤ 100) :
    Calls Tryz.prog 148 #[.int .i64 n, .int .i64 d] w fun e w' => (∃ r : ByteArray, r.data.toList = padded n d ∧ e = .returned (.string r)) ∧ Below w.heap.size w w' := by
  have HP := Lib.hid hp
  clear hp
  go_enter Tryz.func148, Tryz.ntmps148
  go_wp2_with fail
  refine (Tryz.strconv_FormatInt_10 n h0 h1 w HP.out).mono ?_
  rintro e w1 ⟨rfl, k, os, hw1⟩
  have hb1 : Below w.heap.size w w1 := by rw [hw1]; exact ⟨rfl, rfl, rfl, by simp [grow, World.drewN], fun j hj => by simp [grow, World.drewN, Array.getElem?_append, hj]⟩
  clear hw1
  obtain ⟨t, ht⟩ : ∃ t : ByteArray, t = ⟨(Lib.itoa n).toArray⟩ := ⟨_, rfl⟩
  rw [← ht]
  have htl := Lib.hid (show t.data.toList = Lib.itoa n from by rw [ht])
  clear ht
  have hts : t.size ≤ 21 := by rw [size_of_list htl.out]; exact Lib.itoa_length_le n h0 h1
  have hw2 : IntKind.i64.wrap ((d : Int) - (t.size : Int)) = (d : Int) - (t.size : Int) := IntWalk.i64_in _ (by omega)
  go_wp2_with fail
  rw [show max (0 : Int) ((d : Int) - (t.size : Int)) = ((d - t.size : Nat) : Int) from by omega]
  refine (Tryz.strings_Repeat ⟨#[48]⟩ (d - t.size) w1 (by omega) (by show 1 * (d - t.size) ≤ _; omega)).mono ?_
  rintro e w2 ⟨rfl, hb2⟩
  obtain ⟨z, hz⟩ : ∃ z : ByteArray, z = ⟨(Lib.repeatL (⟨#[48]⟩ : ByteArray).data.toList (d - t.size)).toArray⟩ := ⟨_, rfl⟩
  rw [← hz]
  have hzl := Lib.hid (show z.data.toList = zeros (d - t.size) from by rw [hz]; exact repeat_zeros _)
  clear hz
  have hzs : z.size ≤ 100 := by rw [size_of_list hzl.out]; unfold zeros; rw [List.length_replicate]; omega
  have hcat : z.size + t.size ≤ 9223372036854775807 := by omega
  have HB := Lib.hid (hb1.trans (hb2.mono hb1.size))
  clear hb1 hb2
  go_wp2
  go_ret
  refine ⟨⟨z ++ t, ?_, rfl⟩, HB.out⟩
  have e1 : (z ++ t).data.toList = z.data.toList ++ t.data.toList := by simp
  rw [e1, hzl.out, htl.out]
  unfold padded
  rw [← htl.out, size_toList]

def numberB (f : Int) : Bool := decide (0 ≤ f) && decide (f ≤ 1048576)
set_option maxRecDepth 100000 in
theorem number_any (w : World) (f : Int) : Calls Tryz.prog 144 #[.int .i64 f] w fun e w' => e = .returned (.bool (numberB f)) ∧ w = w' := by
  by_cases h0 : 0 ≤ f
  · by_cases h1 : f ≤ 1048576
    · go_enter Tryz.func144, Tryz.ntmps144
      go_wp2
      go_ret
      exact ⟨ret_bool (by unfold numberB; simp [h0, h1]), rfl⟩
    · go_enter Tryz.func144, Tryz.ntmps144
      go_wp2
      go_ret
      exact ⟨ret_bool (by unfold numberB; simp [h1]), rfl⟩
  · go_enter Tryz.func144, Tryz.ntmps144
    go_wp2
    go_ret
    exact ⟨ret_bool (by unfold numberB; simp; omega), rfl⟩

/-- A segment's file's name. -/
def segName (g f : Int) : List UInt8 := if 0 ≤ g ∧ g ≤ 99999999 ∧ 0 ≤ f ∧ f ≤ 1048576 then 115 :: (padded g 8 ++ 45 :: padded f 10) else []

theorem padded_length (n : Int) (d : Nat) (h0 : -9223372036854775808 ≤ n) (h1 : n ≤ 9223372036854775807) : (padded n d).length ≤ d + 21 := by
  unfold padded zeros
  have := Lib.itoa_length_le n h0 h1
  rw [List.length_append, List.length_replicate]; omega

set_option maxRecDepth 100000 in
set_option maxHeartbeats 1000000 in
theorem name_any (w : World) (hp : Pow w) (g f : Int) :
    Calls Tryz.prog 81 #[.int .i64 g, .int .i64 f] w fun e w' => (∃ r : ByteArray, r.data.toList = segName g f ∧ e = .returned (.string r)) ∧ Below w.heap.size w w' := by
  have HP := Lib.hid hp
  clear hp
  by_cases h0 : g < 0
  · have hE := Lib.hid (show segName g f = [] from by unfold segName; rw [if_neg (by omega)])
    go_enter Tryz.func81, Tryz.ntmps81
    go_wp2
    go_ret
    exact ⟨⟨⟨#[]⟩, by rw [hE.out], rfl⟩, Below.refl _ _⟩
  · by_cases h1 : 99999999 < g
    · have hE := Lib.hid (show segName g f = [] from by unfold segName; rw [if_neg (by omega)])
      go_enter Tryz.func81, Tryz.ntmps81
      go_wp2
      go_ret
      exact ⟨⟨⟨#[]⟩, by rw [hE.out], rfl⟩, Below.refl _ _⟩
    · cases hn : numberB f
      · have hE := Lib.hid (show segName g f = [] from by unfold segName; rw [if_neg (by unfold numberB at hn; simp at hn; omega)])
        go_enter Tryz.func81, Tryz.ntmps81
        go_wp2_with fail
        refine (number_any _ f).mono ?_
        rintro e w1 ⟨rfl, rfl⟩
        rw [hn]
        go_wp2
        go_ret
        exact ⟨⟨⟨#[]⟩, by rw [hE.out], rfl⟩, Below.refl _ _⟩
      · have hf : 0 ≤ f ∧ f ≤ 1048576 := by unfold numberB at hn; simp at hn; exact hn
        obtain ⟨hf0, hf1⟩ := hf
        have hE := Lib.hid (show segName g f = 115 :: (padded g 8 ++ 45 :: padded f 10) from by unfold segName; rw [if_pos ⟨by omega, by omega, hf0, hf1⟩])
        go_enter Tryz.func81, Tryz.ntmps81
        go_wp2_with fail
        refine (number_any _ f).mono ?_
        rintro e w1 ⟨rfl, rfl⟩
        rw [hn]
        go_wp2_with fail
        refine (padded_any w HP.out g (by omega) (by omega) 8 (by omega)).mono ?_
        rintro e w1 ⟨⟨r1, hr1, rfl⟩, hb1⟩
        have hl1 : r1.size ≤ 29 := by rw [size_of_list hr1]; exact padded_length g 8 (by omega) (by omega)
        have HR1 := Lib.hid hr1
        clear hr1
        have hq1 : (⟨#[115]⟩ : ByteArray).size + r1.size ≤ 9223372036854775807 := by show 1 + r1.size ≤ _; omega
        have hq1' : 1 + r1.size ≤ 9223372036854775807 := by omega
        go_wp2_with fail
        refine (padded_any w1 (below_pow hb1 HP.out) f (by omega) (by omega) 10 (by omega)).mono ?_
        rintro e w2 ⟨⟨r2, hr2, rfl⟩, hb2⟩
        have hl2 : r2.size ≤ 31 := by rw [size_of_list hr2]; exact padded_length f 10 (by omega) (by omega)
        have HR2 := Lib.hid hr2
        have HB := Lib.hid (hb1.trans (hb2.mono hb1.size))
        have hq2 : 1 + r1.size + 1 + r2.size ≤ 9223372036854775807 := by omega
        clear hr2 hb1 hb2
        go_wp2
        go_ret
        refine ⟨⟨_, ?_, rfl⟩, HB.out⟩
        rw [hE.out, ← HR1.out, ← HR2.out]
        simp

theorem box2_below' (w : World) (o1 o2 : Obj) : Below w.heap.size w ((w.alloc o1).alloc o2) := ((Below.refl _ _).alloc (Nat.le_refl _) _).alloc (by simp) _

/-- The place of the segment that has a batch. -/
def findGo (q : Int) : Nat → Int → Segs → Int
  | _, at', [] => at'
  | k, at', (_, f) :: r => findGo q (k + 1) (if f ≤ q then (k : Int) else at') r
def findB (l : Segs) (q : Int) : Int := findGo q 0 (-1) l
theorem findGo_step {q a : Int} {l : Segs} {k : Nat} (hk : k < l.length) : findGo q k a (l.drop k) = findGo q (k + 1) (if l[k].2 ≤ q then (k : Int) else a) (l.drop (k + 1)) := by
  rw [List.drop_eq_getElem_cons hk]; rfl

set_option maxRecDepth 100000 in
set_option maxHeartbeats 2000000 in
theorem find_any (w : World) (g : Int) (sv : Value) (l : Segs) (hs : SegsAt w sv l) (hl : l.length ≤ 1099511627776) (q : Int) :
    Calls Tryz.prog 55 #[.agg #[.int .i64 g, sv], .int .i64 q] w fun e w' => e = .returned (.int .i64 (findB l q)) ∧ Below w.heap.size w w' := by
  obtain ⟨a, c, rfl⟩ := hs.shape
  have HS := Lib.hid hs
  clear hs
  go_enter Tryz.func55, Tryz.ntmps55
  go_wp2
  go_loopw [5, 11] (fun x i wr => ∃ (k : Nat) (at' : Int), k ≤ l.length ∧ i = .int .i64 k ∧ x = .int .i64 at' ∧ findB l q = findGo q k at' (l.drop k) ∧ Below (w.heap.size + 1) (w.alloc (.cells #[.int .i64 g, .slice a l.length c] 40)) wr) (fun _ i _ => l.length - (intOf i).toNat)
  case atStart => exact ⟨0, -1, by omega, rfl, rfl, rfl, Below.refl _ _⟩
  case round =>
    obtain ⟨k, at', hk, rfl, rfl, hok, hb⟩ := hrel
    have HOK := Lib.hid hok
    clear hok
    have hsz := hb.size
    simp at hsz
    by_cases hlt : k < l.length
    · have HST := Lib.hid (findGo_step (q := q) (a := at') hlt)
      obtain ⟨b, o, rfl, h1, h2, hbl⟩ := HS.out.at k hlt
      have hc1 : wr.cell? ⟨b, o + k * 2, none⟩ = some (.int .i64 l[k].1) := by rw [hb.cell (by show b < _; omega), World.cell?_alloc_past _ _ _ hbl]; exact h1
      have hc2 : wr.cell? ⟨b, o + k * 2 + 1, none⟩ = some (.int .i64 l[k].2) := by rw [hb.cell (by show b < _; omega), World.cell?_alloc_past _ _ _ hbl]; exact h2
      clear h1 h2
      by_cases hF : l[k].2 ≤ q
      · have hgo := Lib.hid (HOK.out.trans (HST.out.trans (by rw [if_pos hF])))
        generalize l[k].1 = A at *
        generalize l[k].2 = F at *
        go_wp2
        go_roundw
        case rel => exact ⟨k + 1, k, by omega, by go_num, rfl, hgo.out, hb.alloc (by omega) _⟩
        case measure => simp [intOf]; omega
      · have hgo := Lib.hid (HOK.out.trans (HST.out.trans (by rw [if_neg hF])))
        generalize l[k].1 = A at *
        generalize l[k].2 = F at *
        go_wp2
        go_roundw
        case rel => exact ⟨k + 1, at', by omega, by go_num, rfl, hgo.out, hb.alloc (by omega) _⟩
        case measure => simp [intOf]; omega
    · have HE := Lib.hid (show findB l q = at' from by rw [HOK.out, List.drop_eq_nil_of_le (by omega)]; rfl)
      go_wp2
      go_ret
      exact ⟨ret_int HE.out.symm, below_box hb⟩

set_option maxRecDepth 100000 in
set_option maxHeartbeats 2000000 in
theorem equal_any (w : World) (sa sb : Value) (x y : Segs) (hx : SegsAt w sa x) (hy : SegsAt w sb y) (hlx : x.length ≤ 1099511627776) (hly : y.length ≤ 1099511627776) :
    Calls Tryz.prog 99 #[sa, sb] w fun e w' => e = .returned (.bool (x == y)) ∧ Below w.heap.size w w' := by
  obtain ⟨a, c, rfl⟩ := hx.shape
  obtain ⟨b, d, rfl⟩ := hy.shape
  have HX := Lib.hid hx
  have HY := Lib.hid hy
  clear hx hy
  by_cases hl : x.length = y.length
  · go_enter Tryz.func99, Tryz.ntmps99
    go_wp2
    go_loopw [13] (fun i wr => ∃ k : Nat, k ≤ x.length ∧ i = .int .i64 k ∧ x.take k = y.take k ∧ Below w.heap.size w wr) (fun i _ => x.length - (intOf i).toNat)
    case atStart => exact ⟨0, by omega, rfl, rfl, Below.refl _ _⟩
    case round =>
      obtain ⟨k, hk, rfl, ht, hb⟩ := hrel
      have HT := Lib.hid ht
      clear ht
      by_cases hlt : k < x.length
      · have hlt2 : k < y.length := by omega
        obtain ⟨b1, o1, rfl, h1, h2, hbl1⟩ := HX.out.at k hlt
        obtain ⟨b2, o2, rfl, h3, h4, hbl2⟩ := HY.out.at k hlt2
        have c1 := (hb.cell (p := ⟨b1, o1 + k * 2, none⟩) hbl1).trans h1
        have c2 := (hb.cell (p := ⟨b1, o1 + k * 2 + 1, none⟩) hbl1).trans h2
        have c3 := (hb.cell (p := ⟨b2, o2 + k * 2, none⟩) hbl2).trans h3
        have c4 := (hb.cell (p := ⟨b2, o2 + k * 2 + 1, none⟩) hbl2).trans h4
        clear h1 h2 h3 h4
        by_cases e1 : x[k].1 = y[k].1
        · by_cases e2 : x[k].2 = y[k].2
          · have hn := Lib.hid (show x.take (k + 1) = y.take (k + 1) from by rw [List.take_succ_eq_append_getElem hlt, List.take_succ_eq_append_getElem hlt2, HT.out, show x[k] = y[k] from Prod.ext e1 e2])
            go_wp2
            go_region
            go_wp2
            go_roundw
            case rel => exact ⟨k + 1, by omega, by go_num, hn.out, hb.drew⟩
            case measure => simp [intOf]; omega
          · have hne := Lib.hid (show (x == y) = false from by
              cases e : x == y
              · rfl
              · have := eq_of_beq e; subst this; exact absurd rfl e2)
            go_wp2
            go_region
            go_wp2
            go_ret
            exact ⟨ret_bool hne.out.symm, hb.drew⟩
        · have hne := Lib.hid (show (x == y) = false from by
            cases e : x == y
            · rfl
            · have := eq_of_beq e; subst this; exact absurd rfl e1)
          go_wp2
          go_region
          go_wp2
          go_ret
          exact ⟨ret_bool hne.out.symm, hb.drew⟩
      · have heq := Lib.hid (show (x == y) = true from by
          have h1 := HT.out
          rw [show k = x.length from by omega, List.take_length, hl, List.take_length] at h1
          rw [h1]; simp)
        go_wp2
        go_ret
        exact ⟨ret_bool heq.out.symm, hb⟩
  · have hne : (x == y) = false := by
      cases e : x == y
      · rfl
      · exact absurd (by rw [eq_of_beq e]) hl
    go_enter Tryz.func99, Tryz.ntmps99
    go_wp2
    go_ret
    exact ⟨ret_bool hne.symm, Below.refl _ _⟩

set_option maxRecDepth 100000 in
set_option maxHeartbeats 1000000 in
theorem same_any (w : World) (g h : Int) (sa sb : Value) (x y : Segs) (hx : SegsAt w sa x) (hy : SegsAt w sb y) (hlx : x.length ≤ 1099511627776) (hly : y.length ≤ 1099511627776) :
    Calls Tryz.prog 34 #[.agg #[.int .i64 g, sa], .agg #[.int .i64 h, sb]] w fun e w' => e = .returned (.bool (decide (g = h) && x == y)) ∧ Below w.heap.size w w' := by
  have hbz := box2_below' w (.cells #[.int .i64 g, sa] 40) (.cells #[.int .i64 h, sb] 40)
  have HX := Lib.hid (hx.pure hbz)
  have HY := Lib.hid (hy.pure hbz)
  have HB := Lib.hid hbz
  clear hx hy hbz
  by_cases hg : g = h
  · subst hg
    go_enter Tryz.func34, Tryz.ntmps34
    go_wp2_with fail
    refine (equal_any _ sa sb x y HX.out HY.out hlx hly).mono ?_
    rintro e w1 ⟨rfl, hb1⟩
    have HB1 := Lib.hid (HB.out.trans (hb1.mono (by simp; omega)))
    clear hb1
    go_wp2
    go_ret
    exact ⟨ret_bool (by simp), HB1.out⟩
  · go_enter Tryz.func34, Tryz.ntmps34
    go_wp2
    go_ret
    exact ⟨ret_bool (by simp [hg]), HB.out⟩

def sizeB (n : Int) : Int := if n < 1 ∨ 64 < n then 0 else 18 + 16 * n
set_option maxRecDepth 100000 in
theorem size_any (w : World) (n : Int) (h0 : -9223372036854775808 ≤ n) (h1 : n ≤ 9223372036854775807) :
    Calls Tryz.prog 156 #[.int .i64 n] w fun e w' => e = .returned (.int .i64 (sizeB n)) ∧ w = w' := by
  by_cases ha : n < 1
  · have HS := Lib.hid (show sizeB n = 0 from by unfold sizeB; rw [if_pos (.inl ha)])
    go_enter Tryz.func156, Tryz.ntmps156
    go_wp2
    go_ret
    exact ⟨ret_int HS.out.symm, rfl⟩
  · by_cases hb : 64 < n
    · have HS := Lib.hid (show sizeB n = 0 from by unfold sizeB; rw [if_pos (.inr hb)])
      go_enter Tryz.func156, Tryz.ntmps156
      go_wp2
      go_ret
      exact ⟨ret_int HS.out.symm, rfl⟩
    · have HS := Lib.hid (show sizeB n = 18 + 16 * n from by unfold sizeB; rw [if_neg (by omega)])
      go_enter Tryz.func156, Tryz.ntmps156
      go_wp2
      go_ret
      exact ⟨ret_int HS.out.symm, rfl⟩

end Go.Proofs.YtppghhophaobdaaGreatDoor
