/- Acts that came in: rows of five fields, the last one numbers. -/
import Derived.Test.YtcdjckdbcffgdaaGreatDoorMBe
import Derived.Test.YtcdjckdbcffgdaaGreatDoorMkDk11
import Derived.Deep.Slices
import Derived.Deep.RegionHeld3
import Derived.Test.YtcdjckdbcffgdaaGreatDoorMDc
import Derived.HandedShaped
import Derived.Shelf.Vars
namespace Go.Proofs.YtcdjckdbcffgdaaGreatDoor
open Go.ChangeShapes Go.WideShapes Go.ChangeAt Go.RowKit

/-- An act: what, a payload, two numbers, numbers and where they lie. -/
structure ActS where
  what : Int
  pay : ByteArray
  a : Int
  b : Int
  keep : Value
  ks : List Int
instance : Inhabited ActS := ⟨⟨0, ⟨#[]⟩, 0, 0, .slice none 0 0, []⟩⟩

def ActsAt (w : World) (v : Value) (l : List ActS) : Prop :=
  ∃ a c, v = .slice a l.length c ∧ (l = [] ∨ ∃ b o, a = some ⟨b, o, none⟩ ∧ ∀ i (h : i < l.length), w.cell? ⟨b, o + i * 5, none⟩ = some (.int .u8 l[i].what) ∧ w.cell? ⟨b, o + i * 5 + 1, none⟩ = some (.string l[i].pay) ∧
    w.cell? ⟨b, o + i * 5 + 2, none⟩ = some (.int .i64 l[i].a) ∧ w.cell? ⟨b, o + i * 5 + 3, none⟩ = some (.int .i64 l[i].b) ∧ w.cell? ⟨b, o + i * 5 + 4, none⟩ = some l[i].keep ∧ IntsAt w l[i].keep l[i].ks)
theorem ActsAt.shape {w : World} {v : Value} {l : List ActS} (h : ActsAt w v l) : ∃ a c, v = .slice a l.length c := by obtain ⟨a, c, h, _⟩ := h; exact ⟨a, c, h⟩
theorem ints_lt {w : World} {v : Value} {ks : List Int} (h : IntsAt w v ks) (h0 : 0 < ks.length) : ∃ b o, v = .slice (some ⟨b, o, none⟩) ks.length (match v with | .slice _ _ c => c | _ => 0) ∧ b < w.heap.size := by
  obtain ⟨a, c, rfl, _, h | ⟨b, o, rfl, h⟩⟩ := h
  · rw [h] at h0; simp at h0
  · exact ⟨b, o, rfl, ltOfCell (h 0 h0)⟩
theorem IntsAt.pureX {w w' : World} {v : Value} {ks : List Int} (h : IntsAt w v ks) (hb : Below w.heap.size w w') : IntsAt w' v ks := by
  obtain ⟨a, c, rfl, hc, h | ⟨b, o, rfl, h⟩⟩ := h
  · exact ⟨a, c, rfl, hc, .inl h⟩
  · exact ⟨_, c, rfl, hc, .inr ⟨b, o, rfl, fun i hi => (hb.cell (p := ⟨b, o + i, none⟩) (ltOfCell (h i hi))).trans (h i hi)⟩⟩
theorem ActsAt.pure {w w' : World} {v : Value} {l : List ActS} (h : ActsAt w v l) (hb : Below w.heap.size w w') : ActsAt w' v l := by
  obtain ⟨a, c, e, h | ⟨b, o, e2, h⟩⟩ := h
  · exact ⟨a, c, e, .inl h⟩
  · have up : ∀ {o : Nat} {u : Value}, w.cell? ⟨b, o, none⟩ = some u → w'.cell? ⟨b, o, none⟩ = some u := fun {o u} h => (hb.cell (p := ⟨b, o, none⟩) (ltOfCell h)).trans h
    exact ⟨a, c, e, .inr ⟨b, o, e2, fun i hi => by obtain ⟨h0, h1, h2, h3, h4, h5⟩ := h i hi; exact ⟨up h0, up h1, up h2, up h3, up h4, h5.pureX hb⟩⟩⟩
theorem ActsAt.at {w : World} {a : Option Addr} {n c : Nat} {l : List ActS} (h : ActsAt w (.slice a n c) l) (i : Nat) (hi : i < l.length) : ∃ b o, a = some ⟨b, o, none⟩ ∧ b < w.heap.size ∧ w.cell? ⟨b, o + i * 5, none⟩ = some (.int .u8 l[i].what) ∧ w.cell? ⟨b, o + i * 5 + 1, none⟩ = some (.string l[i].pay) ∧
    w.cell? ⟨b, o + i * 5 + 2, none⟩ = some (.int .i64 l[i].a) ∧ w.cell? ⟨b, o + i * 5 + 3, none⟩ = some (.int .i64 l[i].b) ∧ w.cell? ⟨b, o + i * 5 + 4, none⟩ = some l[i].keep ∧ IntsAt w l[i].keep l[i].ks := by
  obtain ⟨a', c', e, h | ⟨b, o, e2, h⟩⟩ := h
  · rw [h] at hi; simp at hi
  · cases e
    exact ⟨b, o, e2, ltOfCell (h i hi).1, h i hi⟩

/-- What an act that came in may be. -/
structure ActOk (x : ActS) : Prop where
  w0 : 0 ≤ x.what
  w1 : x.what ≤ 255
  size : x.pay.size ≤ reachBytes
  a0 : -9223372036854775808 ≤ x.a
  a1 : x.a ≤ 9223372036854775807
  few : x.ks.length ≤ maxLen

set_option maxRecDepth 100000 in
set_option maxHeartbeats 1000000 in
theorem open_acts {H : Type} {enc : TypeId × Value → H} {W : World} {b0 : Nat} {v : Value} {d : DataW H} {p : List MemPlace} (hv : Value.okWide Tryz.prog W .any b0 62 v) (h : DataW.Trod enc Tryz.prog W 0 (fun _ => true) true 62 v d p)
    (hw : ∀ n ∈ d.weights Tryz.prog 62, n ≤ reachBytes) : ∃ l, ActsAt W v l ∧ l.length * 64 ≤ reachBytes ∧ ∀ x ∈ l, ActOk x := by
  obtain ⟨va, vn, vc, rfl⟩ := slice_shape Tryz.underlying62 hv
  obtain ⟨fuel, h⟩ := h
  rcases Deep.open_slice Tryz.underlying62 h with ⟨hc, _⟩ | ⟨a, len, cap, m, n, D, Pl, hc, _, hl, hm, hmm, hd, hx⟩
  · have hc' : va = none ∧ vn = 0 ∧ vc = 0 := by simpa [Value.cells] using hc
    obtain ⟨rfl, rfl, rfl⟩ := hc'
    exact ⟨[], ⟨none, 0, rfl, .inl rfl⟩, by simp, by simp⟩
  · have hc' : va = some a ∧ vn = len ∧ vc = cap := by simpa [Value.cells] using hc
    obtain ⟨rfl, rfl, rfl⟩ := hc'
    have hmv : m = vc := by simpa using hmm
    subst hmv
    have e5 : Tryz.prog.cellsOf 65 = 5 := by kernel_rfl
    have eB : Tryz.prog.bytesOf 65 = 64 := by kernel_rfl
    have hdd : d = .slice ((List.range vn).map D) ((List.range (m - vn)).map fun j => D (vn + j)) := by have := congrArg Prod.fst hd; exact this
    have each : ∀ i, i < m → ∃ q : ActS, W.cell? (a.add (i * 5)) = some (.int .u8 q.what) ∧ W.cell? (a.add (i * 5 + 1)) = some (.string q.pay) ∧ W.cell? (a.add (i * 5 + 2)) = some (.int .i64 q.a) ∧ W.cell? (a.add (i * 5 + 3)) = some (.int .i64 q.b) ∧ W.cell? (a.add (i * 5 + 4)) = some q.keep ∧ IntsAt W q.keep q.ks ∧
        0 ≤ q.what ∧ q.what ≤ 255 ∧ -9223372036854775808 ≤ q.a ∧ q.a ≤ 9223372036854775807 ∧ q.ks.length ≤ maxLen ∧ ∃ d2 d3 d4, D i = .agg [.lit (.int .u8 q.what), .lit (.string q.pay.data.toList), d2, d3, d4] := by
      intro i hi
      obtain ⟨cs', h1, h2⟩ := hx i hi
      rw [e5] at h1
      obtain ⟨_, hlen, hcell⟩ := World.cells?_some h1
      obtain ⟨xs, k, _, hxy, _, hxl, hf⟩ := DataW.trod_struct Tryz.underlying65 h2
      match xs, hxl, cs', hlen with
      | [y0, y1, y2, y3, y4], _, [u0, u1, u2, u3, u4], _ =>
        have g0 := hf 0 _ rfl
        have g1 := hf 1 _ rfl
        have g2 := hf 2 _ rfl
        have g3 := hf 3 _ rfl
        have g4 := hf 4 _ rfl
        have c1 : Tryz.prog.cellsOf 9 = 1 := by kernel_rfl
        have c2 : Tryz.prog.cellsOf 5 = 1 := by kernel_rfl
        have c3 : Tryz.prog.cellsOf 2 = 1 := by kernel_rfl
        have c4 : Tryz.prog.cellsOf 58 = 1 := by kernel_rfl
        simp [c1, c2, c3, c4] at g0 g1 g2 g3 g4
        obtain ⟨n0, e0, f0, w0⟩ := DataW.trod_int Tryz.underlying5 g0
        obtain ⟨s1, e1, f1, _⟩ := DataW.trod_string Tryz.underlying9 g1
        obtain ⟨n2, e2, f2, w2⟩ := DataW.trod_int Tryz.underlying2 g2
        obtain ⟨n3, e3, f3, _⟩ := DataW.trod_int Tryz.underlying2 g3
        have k0 := hcell 0 (by omega)
        have k1 := hcell 1 (by omega)
        have k2 := hcell 2 (by omega)
        have k3 := hcell 3 (by omega)
        have k4 := hcell 4 (by omega)
        rw [Deep.add_add] at k0 k1 k2 k3 k4
        simp at e0 e1 e2 e3
        subst e0 e1 e2 e3 f0 f1 f2 f3
        simp only [Prod.mk.injEq] at hxy
        have hB := bounds_u8 w0
        have hI := bounds_i64 w2
        have hk4 : ∃ ks, IntsAt W u4 ks ∧ ks.length ≤ maxLen := by
          rcases open_ints Tryz.underlying58 Tryz.underlying3 (by kernel_rfl) g4 with ⟨hc, _⟩ | ⟨a4, len4, cap4, zs, hc, _, hl4, hm4, hz, _, hcell4, hwf⟩
          · have hc' : u4 = .slice none 0 0 := by simpa using hc
            subst hc'
            exact ⟨[], ⟨none, 0, rfl, by simp, .inl rfl⟩, by simp⟩
          · have hc' : u4 = .slice (some a4) len4 cap4 := by simpa using hc
            subst hc'
            have hzl : zs.length = cap4 := by simpa using hz
            refine ⟨zs.take len4, ⟨some a4, cap4, by rw [List.length_take, Nat.min_eq_left (by omega)], by rw [List.length_take]; omega, ?_⟩, by rw [List.length_take]; omega⟩
            by_cases h0 : len4 = 0
            · subst h0; exact .inl (by simp)
            · obtain ⟨b, o, sp⟩ := a4
              have h1 := hcell4 0 (by omega)
              have hsp : sp = none := by simpa [Addr.add] using World.cell?_spot h1
              subst hsp
              refine .inr ⟨b, o, rfl, fun i hi => ?_⟩
              rw [List.length_take] at hi
              have := hcell4 i (by omega)
              rw [add_plain] at this
              rw [this, List.getElem_take]
              simp [List.getD, List.getElem?_eq_getElem (show i < zs.length by omega)]
        obtain ⟨ks, hks, hkl⟩ := hk4
        exact ⟨⟨n0, s1, n2, n3, u4, ks⟩, by simpa using k0, by simpa using k1, by simpa using k2, by simpa using k3, by simpa using k4, hks, hB.1, hB.2, hI.1, hI.2, hkl, _, _, _, by simpa using hxy.1⟩
    obtain ⟨q, hq⟩ := Deep.choose_lt each
    have hwt : ∀ i, i < vn → (q i).pay.size ≤ reachBytes := by
      intro i hi
      have hmem : D i ∈ (List.range vn).map D := List.mem_map.2 ⟨i, List.mem_range.2 hi, rfl⟩
      have hall : ∀ n ∈ (D i).weights Tryz.prog 65, n ≤ reachBytes := fun n hn => hw n (by
        rw [hdd]
        simp only [DataW.weights, Tryz.underlying62, List.mem_cons, List.mem_append]
        exact .inr (.inl (mem_weightsAll hmem n hn)))
      obtain ⟨_, _, _, _, _, _, _, _, _, _, _, d2, d3, d4, hD⟩ := hq i (by omega)
      rw [hD] at hall
      have := hall (q i).pay.data.toList.length (by
        simp [DataW.weights, Tryz.underlying65, DataW.weightsEach])
      rwa [size_toList] at this
    have hlen : (vn + (m - vn)) * 64 ≤ reachBytes := hw _ (by
      rw [hdd]
      simp only [DataW.weights, Tryz.underlying62, List.mem_cons, List.length_map, List.length_range, eB]
      exact .inl trivial)
    refine ⟨(List.range vn).map q, ⟨some a, m, by simp, ?_⟩, by simp; omega, ?_⟩
    · by_cases h0 : vn = 0
      · subst h0; exact .inl rfl
      · obtain ⟨b, o, sp⟩ := a
        have hsp : sp = none := by simpa [Addr.add] using World.cell?_spot (hq 0 (by omega)).1
        subst hsp
        refine .inr ⟨b, o, rfl, fun i hi => ?_⟩
        have hi' : i < vn := by simpa using hi
        obtain ⟨k0, k1, k2, k3, k4, k5, _⟩ := hq i (by omega)
        rw [add_plain] at k0 k1 k2 k3 k4
        simp only [List.getElem_map, List.getElem_range]
        exact ⟨k0, k1, k2, k3, k4, k5⟩
    · intro x hx
      obtain ⟨i, hi, rfl⟩ := List.mem_map.1 hx
      have hi' := List.mem_range.1 hi
      obtain ⟨_, _, _, _, _, _, b0, b1, b2, b3, b4, _⟩ := hq i (by omega)
      exact ⟨b0, b1, hwt i hi', b2, b3, b4⟩
end Go.Proofs.YtcdjckdbcffgdaaGreatDoor

/- souklaw14.heavy, over acts and no files. -/
namespace Go.Proofs.YtcdjckdbcffgdaaGreatDoor
open Go.RowKit

def hvA (x : ActS) : Nat := 60 + x.pay.size + min 12000 x.ks.length
def hvN (l : List ActS) : Nat := (l.map hvA).sum
theorem hvN_snoc {l : List ActS} {k : Nat} (h : k < l.length) : hvN (l.take (k + 1)) = hvN (l.take k) + hvA l[k] := by
  unfold hvN
  rw [List.take_succ_eq_append_getElem h, List.map_append, List.sum_append, List.map_singleton, List.sum_singleton]
theorem hvN_len (l : List ActS) : l.length * 60 ≤ hvN l := by
  unfold hvN
  induction l with
  | nil => simp
  | cons s r ih => simp only [List.length_cons, List.map_cons, List.sum_cons]; unfold hvA at *; omega
theorem hvN_mem {l : List ActS} {x : ActS} (h : x ∈ l) : hvA x ≤ hvN l := by
  unfold hvN
  induction l with
  | nil => simp at h
  | cons t r ih =>
    simp only [List.map_cons, List.sum_cons]
    rcases List.mem_cons.1 h with rfl | h
    · omega
    · have := ih h; omega
theorem hvN_take (l : List ActS) (k : Nat) : hvN (l.take k) ≤ hvN l := by
  have e : hvN l = hvN (l.take k) + hvN (l.drop k) := by
    unfold hvN
    rw [← List.sum_append, ← List.map_append, List.take_append_drop]
  omega

set_option maxRecDepth 100000 in
set_option maxHeartbeats 4000000 in
theorem heavy_any (w : World) (v : Value) (l : List ActS) (h : ActsAt w v l) (hl : l.length ≤ 140737488355328) (hok : ∀ x ∈ l, ActOk x) :
    Calls Tryz.prog 31 #[v, .slice none 0 0] w fun e w' => e = .returned (.bool (decide (12000 ≤ hvN l))) ∧ Below w.heap.size w w' := by
  obtain ⟨sa, sc, rfl⟩ := h.shape
  have H := Lib.hid h
  have HOK := Lib.hid hok
  have hreach : reachBytes < 2 ^ 47 := reachBytes_lt
  clear h hok
  go_enter Tryz.func31, Tryz.ntmps31
  go_wp2
  go_loopw [5, 6] (fun n i wr => ∃ k : Nat, i = .int .i64 k ∧ k ≤ l.length ∧ n = .int .i64 ((hvN (l.take k) : Nat) : Int) ∧ (k = 0 ∨ hvN (l.take (k - 1)) < 12000) ∧ Below w.heap.size w wr) (fun n i _ => l.length - (intOf i).toNat)
  case atStart => exact ⟨0, rfl, by omega, rfl, .inl rfl, Below.refl _ _⟩
  case round =>
    obtain ⟨k, rfl, hkl, rfl, hprev, hb⟩ := hrel
    have HB := Lib.hid hb
    have hNb : hvN (l.take k) ≤ 140737488400000 := by
      rcases hprev with rfl | hprev
      · simp [hvN]
      · by_cases hk0 : k = 0
        · subst hk0; simp [hvN]
        · have h1 := hvN_snoc (l := l) (k := k - 1) (by omega)
          rw [show k - 1 + 1 = k from by omega] at h1
          have h2 := (HOK.out (l[k - 1]'(by omega)) (List.getElem_mem (by omega))).size
          have h3 : hvA (l[k - 1]'(by omega)) ≤ 60 + (l[k - 1]'(by omega)).pay.size + 12000 := by unfold hvA; omega
          omega
    obtain ⟨N, hN⟩ : ∃ N, N = hvN (l.take k) := ⟨_, rfl⟩
    rw [← hN] at hNb ⊢
    have HN := Lib.hid hN
    clear hN hprev hb
    by_cases hk : k < l.length
    · by_cases hn : N < 12000
      · have hn2 : (N : Int) < 12000 := by omega
        obtain ⟨pb, po, rfl, hpl, hc0, hc1, hc2, hc3, hc4, hi4⟩ := (H.out.pure HB.out).at k hk
        obtain ⟨ka, kc, hkeep, -, -⟩ := hi4
        rw [hkeep] at hc4
        have h2 := HOK.out l[k] (List.getElem_mem hk)
        have hsz := h2.size
        have hks := h2.few
        have hnx : hvN (l.take (k + 1)) = N + (60 + l[k].pay.size + min 12000 l[k].ks.length) := by rw [hvN_snoc hk, HN.out]; rfl
        have HNX := Lib.hid hnx
        have HNP := Lib.hid (show hvN (l.take (k + 1 - 1)) < 12000 from by rw [show k + 1 - 1 = k from by omega, ← HN.out]; exact hn)
        unfold maxLen at hks
        clear hnx h2 hkeep hc0 hc2 hc3
        generalize l[k].pay = P at *
        generalize l[k].ks.length = L at *
        go_wp2_with fail
        go_region
        go_wp2
        refine ⟨⟨k + 1, by go_num, by omega, ?_, .inr HNP.out, HB.out.trans (by exact ⟨rfl, rfl, rfl, Nat.le_refl _, fun _ _ => rfl⟩)⟩, ?_⟩
        · rw [HNX.out]; go_num
        · simp [intOf]; omega
      · have hn2 : (12000 : Int) ≤ (N : Int) := by omega
        have hn3 : decide ((N : Int) < 12000) = false := by simp; omega
        have hn4 : decide ((12000 : Int) ≤ (N : Int)) = true := by simp; omega
        have ht := hvN_take l k
        have HE := Lib.hid (show decide (12000 ≤ hvN l) = true from decide_eq_true (by rw [← HN.out] at ht; omega))
        clear ht
        go_wp2
        have HW := Lib.hid HB.out
        go_loopw [5, 7] (fun n i wx => n = .int .i64 (N : Int) ∧ i = .int .i64 0 ∧ Below w.heap.size w wx) (fun _ _ _ => 0)
        case atStart => exact ⟨rfl, rfl, HB.out⟩
        case round =>
          obtain ⟨rfl, rfl, hb2⟩ := hrel
          have HB2 := Lib.hid hb2
          clear hb2
          go_wp2
          go_ret
          exact ⟨ret_bool (a := true) HE.out.symm, HB2.out⟩
    · obtain rfl : k = l.length := by omega
      obtain rfl : N = hvN l := by rw [HN.out, List.take_length]
      have hlt : decide (((l.length : Nat) : Int) < (l.length : Int)) = false := by simp
      have HE := Lib.hid (show decide ((12000 : Int) ≤ ((hvN l : Nat) : Int)) = decide (12000 ≤ hvN l) from by rw [Bool.eq_iff_iff, decide_eq_true_iff, decide_eq_true_iff]; omega)
      go_wp2
      have HW := Lib.hid HB.out
      go_loopw [5, 7] (fun n i wx => n = .int .i64 ((hvN l : Nat) : Int) ∧ i = .int .i64 0 ∧ Below w.heap.size w wx) (fun _ _ _ => 0)
      case atStart => exact ⟨rfl, rfl, HB.out⟩
      case round =>
        obtain ⟨rfl, rfl, hb2⟩ := hrel
        have HB2 := Lib.hid hb2
        clear hb2
        go_wp2
        go_ret
        exact ⟨ret_bool (a := decide ((12000 : Int) ≤ ((hvN l : Nat) : Int))) HE.out, HB2.out⟩
end Go.Proofs.YtcdjckdbcffgdaaGreatDoor

/- Arguments that came in, where the world's shape is handed on; what the library's variables are. -/
namespace Go.Proofs.YtcdjckdbcffgdaaGreatDoor
open Go.ChangeShapes Go.WideShapes Go.ChangeAt Go.RowKit

section
variable {H : Type} {enc : TypeId × Value → H}
/-- 'returnsInHanded_of_change_and' with the world's shape for the contract, as 'returnsInHanded_of_change_shaped' hands it on. -/
theorem returnsInHanded_and_shaped {a : Assume} {C : Checked} {os : Os} {f : FuncId} {fn : Func} {s : ChangeSpec} {conds : List PathCond} {apart fresh handsOn again : Bool} {X : World → Array Value → Prop}
    (hX : ∀ (w w' : World) (args : Array Value), w.heap = w'.heap → X w args → X w' args)
    (own : ownKnob C.prog.godebug = none) (started : os.Started) (noInit : C.prog.inits.idxOf? f = none) (hfn : C.prog.funcs[f]? = some fn)
    (witness : ∃ (w : World) (tape : Tape) (i : Input), w.os = os ∧ (w.forCall tape i).Shaped C.prog ∧ i.vars = [] ∧ Input.okWide C.prog (w.forCall tape i) .any w.heap.size f i ∧
      ((s.pre enc C.prog fn conds apart (w.forCall tape i).memory i.args ∧ X (w.forCall tape i).memory i.args) ∧ sizedMet enc C.prog fn (OpenSpec.ofChange s) apart (w.forCall tape i).memory i.args) ∧ a.holds C.prog (lone (Frame.enter C.prog f i.args .normal) [] (w.forCall tape i)))
    (contract : ∀ (W : World) (base : Nat) (args : Array Value) (ds gs : List (DataW H)) (before : List MemPlace),
      (∀ (j : Nat) t v, fn.params[j]? = some t → args[j]? = some v → Value.okWide C.prog W .any base t v) →
      DataW.Whole enc C.prog fn.params.toList s.vars apart W args.toList ds gs before →
      conds.all (PathCond.test C.prog ⟨fn.params.toList, ds, s.plain.varTypes C.prog, gs⟩) = true →
      (DataW.weightsEach C.prog (fn.params.toList ++ s.plain.varTypes C.prog) (ds ++ gs)).all (· ≤ reachBytes) = true → X W args → W.ShapedOpen C.prog →
      Calls C.prog f args W fun e W' => ∃ v, e = .returned v ∧ s.post enc C.prog fn apart fresh handsOn again W args v W') :
    ReturnsInHanded a C os f .any (fun w args => (s.pre enc C.prog fn conds apart w args ∧ X w args) ∧ sizedMet enc C.prog fn (OpenSpec.ofChange s) apart w args) (s.post enc C.prog fn apart fresh handsOn again) := by
  refine returnsInHanded_of_calls own started noInit witness ?_
  intro w tape i _ hsh _ hok hpre _
  obtain ⟨_, _, _, fn', hfn', _, _, _, _, hval⟩ := hok
  have e : fn' = fn := Option.some.inj (hfn'.symm.trans hfn)
  subst e
  obtain ⟨⟨⟨ds, gs, before, hw, hc⟩, hx⟩, hz⟩ := hpre
  have hw' := DataW.Whole.of_heap (w' := w.forCall tape i) (by rfl) hw
  refine (contract (w.forCall tape i) w.heap.size i.args ds gs before hval hw' hc (hz.weights hw) (hX _ _ _ (by rfl) hx) hsh).mono fun e W' ⟨v, he, hp⟩ => ?_
  subst he
  exact ChangeSpec.post_blind hp
end

theorem mxl_of_shaped {W : World} (h : W.ShapedOpen Tryz.prog) : Mxl W := cell_of_shapedOpen_int h (g := 0) (t := 3) (zero := #[.int .i64 0]) (of_decide_eq_true (by kernel_rfl)) (by kernel_rfl) rfl (by kernel_rfl) (by kernel_rfl) Tryz.underlying3


theorem trod_iface_cell {H : Type} {enc : TypeId × Value → H} {P : Program} {w : World} {base fuel : Nat} {spare : Nat → Bool} {held : Bool} {t : TypeId} {cs : List Value} {x : DataW H × List MemPlace} {ms : Array (String × TypeId)} (ht : P.underlying t = some (.interface ms))
    (h : DataW.trod enc P w base spare held fuel t cs = some x) : ∃ ev, cs = [ev] ∧ (ev = .nilIface ∨ ∃ te pe, ev = .iface te pe) := by
  cases fuel with
  | zero => simp [DataW.trod] at h
  | succ n =>
    unfold DataW.trod at h
    rw [ht] at h
    split at h <;> simp_all
theorem err_of_var {W : World} {n : String} {g : Nat} {cs : Array Value} (hg : Tryz.prog.globalNamed n = some g) (hv : W.var? Tryz.prog n = some cs) {fuel : Nat} {x : DataW Unit × List MemPlace}
    (h : DataW.trod (fun _ => ()) Tryz.prog W 0 (fun _ => true) false fuel 132 cs.toList = some x) : ErrAt W g := by
  obtain ⟨ev, hc, he⟩ := trod_iface_cell Tryz.underlying132 h
  unfold World.var? at hv
  rw [hg] at hv
  simp only [Option.bind_some] at hv
  refine ⟨ev, ?_, he⟩
  cases hh : W.heap[g]? with
  | none => rw [hh] at hv; cases hv
  | some o =>
    rw [hh] at hv
    cases o with
    | cells c1 t1 z1 =>
      have e : c1 = cs := Option.some.inj hv
      subst e
      have h0 : c1[0]? = some ev := by rw [← Array.getElem?_toList, hc]; rfl
      simp [World.cell?, hh, h0]
    | _ => simp at hv
theorem libs_of {W : World} (hp : Pow W) (h : W.ShapedOpen Tryz.prog) (h1 : ErrAt W 1) (h2 : ErrAt W 2) : Libs W := ⟨hp, mxl_of_shaped h, h1, h2⟩
end Go.Proofs.YtcdjckdbcffgdaaGreatDoor
