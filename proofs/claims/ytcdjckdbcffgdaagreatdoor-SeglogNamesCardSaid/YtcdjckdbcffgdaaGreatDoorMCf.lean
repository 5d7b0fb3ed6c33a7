/- The walks of Room and Copy. -/
import Derived.Test.YtcdjckdbcffgdaaGreatDoorMCe
import Derived.Shelf.SlMaps.Clone
import Derived.Lib.QuietBelow
import Derived.Laws.StructEq
import Derived.Laws.BytesArg
import Derived.Lib.Bytes
import Derived.Deep.OwnRows
import Derived.Test.YtcdjckdbcffgdaaGreatDoorMkDk11
namespace Go.Proofs.YtcdjckdbcffgdaaGreatDoor
open Go.RowKit Go.Maps Go.Sort

theorem IsDk.len {w : World} {p b : Nat} {st : DkSt} (h : IsDk w p b st) (ty : TypeId) : (Builtin.len_ #[104] ty #[.map (some b)]).run Tryz.prog w = .ok (.int .i64 (st.fs.length : Nat)) w := by
  have := h.own.len (t := 104) Tryz.underlying104 ty
  rw [size_fs] at this; exact this

def dkRoom (st : DkSt) : Value := if st.dark then .tuple #[.int .i64 0, .int .i64 0, .int .i64 45] else .tuple #[.int .i64 (st.cap - (used st.fs : Int)), .int .i64 (64 - (st.fs.length : Int)), .int .i64 0]

set_option maxRecDepth 100000 in
set_option maxHeartbeats 1000000 in
theorem dk_room (w : World) (p b : Nat) (st : DkSt) (h : IsDk w p b st) :
    Calls Tryz.prog 104 #[.pointer (some ⟨p, 0, none⟩)] w fun e w' => e = .returned (dkRoom st) ∧ Below w.heap.size w w' := by
  have H := Lib.hid h
  have hul := used_le h.ok.fs
  have hcap0 := h.ok.cap0
  have hcap1 := h.ok.cap1
  have hfit := h.ok.fits
  have hfew := h.ok.fs.few
  obtain ⟨c0, c1, c2, c3⟩ := h.cs
  clear h c2 c3
  cases hd : st.dark
  · have HD := Lib.hid hd
    clear hd
    go_enter Tryz.func104, Tryz.ntmps104
    go_wp2_with fail
    refine (dk_down w p b st H.out).mono ?_
    rintro e w1 ⟨rfl, rfl⟩
    rw [HD.out]
    have k0 := cell_regrown c0
    have k1 := cell_regrown c1
    have q1 : ∀ d os, Calls Tryz.prog 16 #[.pointer (some ⟨p, 0, none⟩)] (grow (redrawn w d) os) fun e w'' => e = .returned (.int .i64 (used st.fs : Int)) ∧ ∃ p : Regrown, w'' = grow (redrawn w p.d) p.os := fun d os => Calls.regrown_of (dk_used _ p b st (H.out.pure (below_regrown w d os)))
    have q2 : ∀ d os ty, (Builtin.len_ #[104] ty #[.map (some b)]).run Tryz.prog (grow (redrawn w d) os) = .ok (.int .i64 (st.fs.length : Nat)) (grow (redrawn w d) os) := fun d os ty => (H.out.pure (below_regrown w d os)).len ty
    have w1e : IntKind.i64.wrap (st.cap - (used st.fs : Int)) = st.cap - (used st.fs : Int) := IntWalk.i64_in _ (by omega)
    have w2e : IntKind.i64.wrap (64 - (st.fs.length : Int)) = 64 - (st.fs.length : Int) := IntWalk.i64_in _ (by omega)
    go_wp2_with fail
    refine wp_region_quiet_below (by kernel_rfl) (by kernel_rfl) ?_
    repeat (go_big_quiet_step (first | exact q1 _ _))
    refine wpQuiet_nil ?_
    intro _ hw'
    obtain ⟨⟨dq, osq⟩, hw''⟩ := hw'
    subst hw''
    clear k0 k1 q1 q2
    go_wp2
    go_ret3
    refine ⟨?_, below_regrown w dq osq⟩
    unfold dkRoom
    rw [HD.out]; rfl
  · have HD := Lib.hid hd
    clear hd
    go_enter Tryz.func104, Tryz.ntmps104
    go_wp2_with fail
    refine (dk_down w p b st H.out).mono ?_
    rintro e w1 ⟨rfl, rfl⟩
    rw [HD.out]
    go_wp2
    go_ret3
    refine ⟨?_, Below.refl _ _⟩
    unfold dkRoom
    rw [HD.out]; rfl

set_option maxRecDepth 100000 in
set_option maxHeartbeats 1000000 in
theorem clone_files (w : World) (b : Nat) (es : Array MapEntry) (clock : Nat) (hb : w.heap[b]? = some (.map es clock)) :
    Calls Tryz.prog 75 #[.map (some b)] w fun e w' => e = .returned (.map (some w.heap.size)) ∧ w' = w.alloc (.map es clock) := by
  have hq := fun w => run_eql_map_nil_sl (P := Tryz.prog) w 104 _ _ (some b) Tryz.underlying104
  go_enter Tryz.func75, Tryz.ntmps75
  go_wp2
  rw [run_callFunc_extern Tryz.func126 (by kernel_rfl) (by kernel_rfl) (by kernel_rfl) (e := Extern.MapsClone.clone) (by kernel_rfl), run_maps_clone_sl w 104 hb]
  simp only [Result.andThen]
  rw [Oper.upon_value]
  go_wp2
  rw [run_typeAssert_map_sl _ 104 _ _ _ _ Tryz.underlying104]
  simp only [Result.andThen]
  rw [Oper.upon_value]
  go_wp2
  go_ret
  exact ⟨rfl, rfl⟩

/-- A disk of its own, alike. -/
def CopyPost (st : DkSt) (w : World) (e : Ending) (w' : World) : Prop := Below w.heap.size w w' ∧ ∃ q c, w.heap.size ≤ q ∧ w.heap.size ≤ c ∧ e = .returned (.pointer (some ⟨q, 0, none⟩)) ∧ IsDk w' q c st

set_option maxRecDepth 100000 in
set_option maxHeartbeats 1000000 in
theorem dk_copy (w : World) (p b : Nat) (st : DkSt) (h : IsDk w p b st) :
    Calls Tryz.prog 28 #[.pointer (some ⟨p, 0, none⟩)] w fun e w' => CopyPost st w e w' := by
  have H := Lib.hid h
  have hp := h.lt
  have hbl := h.own.lt
  obtain ⟨c0, c1, c2, c3⟩ := h.cs
  clear h
  go_enter Tryz.func28, Tryz.ntmps28
  go_wp2_with fail
  have c0' : (w.alloc (.cells #[.map (some b), .int .i64 st.cap, .int .i64 st.left, .bool st.dark] 106)).cell? ⟨p, 0, none⟩ = some (.map (some b)) := by rw [World.cell?_alloc_past _ _ _ hp]; exact c0
  obtain ⟨es, clock, hb, F, hs, hD⟩ := H.out.own
  have HB := Lib.hid (And.intro hb (And.intro F (And.intro hs hD)))
  clear hb F hs hD
  refine (clone_files _ b es clock ((Below.heap_alloc _ _ _ hbl).trans HB.out.1)).mono ?_
  rintro e w2 ⟨rfl, rfl⟩
  go_wp2
  go_ret
  refine ⟨((Below.refl _ _).alloc (Nat.le_refl _) _).alloc (by simp) _, w.heap.size, w.heap.size + 1, Nat.le_refl _, by omega, rfl, ?_, ?_, H.out.ok⟩
  · exact (Below.heap_alloc _ _ _ (by simp)).trans (alloc_at_top _ _ rfl)
  · exact ⟨es, clock, alloc_at_top _ _ (by simp), HB.out.2.1, HB.out.2.2.1, HB.out.2.2.2⟩
end Go.Proofs.YtcdjckdbcffgdaaGreatDoor

/- souklaw14: many, config. -/
namespace Go.Proofs.YtcdjckdbcffgdaaGreatDoor
open Go.RowKit Go.Shelf

theorem Tryz.infoByte : (Tryz.prog.info? 5).map (fun i => (i.zero, i.size, i.bytes)) = some (some (.int .u8 0), 1, 1) := by kernel_rfl

set_option maxRecDepth 100000 in
set_option maxHeartbeats 1000000 in
theorem manyC_any (w : World) (n : Nat) (hn : n ≤ 100000) (c : Int) :
    Calls Tryz.prog 22 #[.int .i64 (n : Int), .int .u8 c] w fun e w' => (∃ r : ByteArray, r.data.toList = List.replicate n (UInt8.ofNat c.toNat) ∧ e = .returned (.string r)) ∧ Below w.heap.size w w' := by
  have hmk := run_make_row' (P := Tryz.prog) 121 5 (.int .u8 0) 1 Tryz.underlying121 Tryz.infoByte rfl .i64 .i64 n (by omega) (by omega)
  go_enter Tryz.func22, Tryz.ntmps22
  go_wp2
  go_loopw [6] (fun vi wr => ∃ k : Nat, k ≤ n ∧ vi = .int .i64 k ∧ Hid (wr.rowIs w.heap.size 5 n (fun j => if j < k then .int .u8 c else .int .u8 0)) ∧ Hid (Below w.heap.size w wr)) (fun vi _ => n - (intOf vi).toNat)
  case atStart => exact ⟨0, by omega, rfl, Lib.hid ((World.rowIs_made w _ _ _).congr (fun j _ => by simp)), Lib.hid ((Below.refl _ _).alloc (Nat.le_refl _) _)⟩
  case round =>
    obtain ⟨k, hk, rfl, hrw, hgr⟩ := hrel
    have hf1 : wr.frozen? ⟨w.heap.size, k, none⟩ = false := hrw.out.frozen _
    by_cases hlt : k < n
    · have hc1 : wr.cell? ⟨w.heap.size, k, none⟩ = some (.int .u8 0) := by have := hrw.out.cell hlt; simpa using this
      go_wp2
      refine ⟨⟨k + 1, by omega, by go_num, Lib.hid ((hrw.out.set k _).congr (fun j _ => ?_)), Lib.hid (hgr.out.setCell (Nat.le_refl _) _)⟩, ?_⟩
      · by_cases hj : j = k
        · subst hj; simp
        · by_cases hjk : j < k
          · rw [if_neg hj, if_pos hjk, if_pos (by omega)]
          · rw [if_neg hj, if_neg hjk, if_neg (by omega)]
      · simp [intOf]; omega
    · obtain rfl : k = n := by omega
      have g := run_convert_bytes_arg (P := Tryz.prog) wr 121 5 Tryz.underlying121 Tryz.underlying5 w.heap.size 0 k k (List.replicate k c) (by simp) (fun i hi => by rw [Nat.zero_add, hrw.out.cell hi]; simp [hi]) 9 Tryz.underlying9
      go_wp2
      go_ret
      exact ⟨⟨_, by rw [strOfNums_data, List.map_replicate], rfl⟩, hgr.out⟩

theorem config_any (w : World) : Calls Tryz.prog 21 #[] w fun e w' => e = .returned (.agg #[.int .i64 64, .int .i64 2, .int .u8 3]) ∧ Below w.heap.size w w' := by
  go_enter Tryz.func21, Tryz.ntmps21
  go_wp2
  have hc : ∀ j u, (#[Value.int IntKind.i64 64, .int .i64 2, .int .u8 3] : Array Value)[j]? = some u → (w.alloc (.cells #[.int .i64 64, .int .i64 2, .int .u8 3] 23)).cell? ⟨w.heap.size, j, none⟩ = some u := fun j u h => by rw [World.cell?_alloc_at _ _ _ _ rfl]; exact h
  have c0 := hc 0 _ rfl
  have c1 := hc 1 _ rfl
  have c2 := hc 2 _ rfl
  refine bodyPost_ret (v := .agg #[.int .i64 64, .int .i64 2, .int .u8 3]) ?_ rfl ⟨rfl, (Below.refl _ _).alloc (Nat.le_refl _) _⟩
  simp [results, Tryz.results21, go_sem, c0, c1, c2]
end Go.Proofs.YtcdjckdbcffgdaaGreatDoor

/- soukref09.Files at one list; souklaw14.sizes. -/
namespace Go.Proofs.YtcdjckdbcffgdaaGreatDoor
open Go.RowKit Go.Maps Go.Sort

theorem drewN_below {B : Nat} {a b : World} (h : Below B a b) (n : Nat) : Below B a (b.drewN n) := ⟨h.os, h.tape, h.output, h.size, h.block⟩

set_option maxRecDepth 100000 in
set_option maxHeartbeats 2000000 in
theorem files_same (w : World) (sa sb : Value) (l : Fs) (ha : FilesAt w sa l) (hb : FilesAt w sb l) (hl : l.length ≤ 1000000) :
    Calls Tryz.prog 17 #[sa, sb] w fun e w' => e = .returned (.bool true) ∧ Below w.heap.size w w' := by
  obtain ⟨a, c, rfl⟩ := ha.shape
  obtain ⟨a2, c2, rfl⟩ := hb.shape
  have HA := Lib.hid ha
  have HB := Lib.hid hb
  clear ha hb
  go_enter Tryz.func17, Tryz.ntmps17
  go_wp2
  go_loopw [5] (fun i wr => ∃ k : Nat, i = .int .i64 k ∧ k ≤ l.length ∧ Below w.heap.size w wr) (fun i _ => l.length - (intOf i).toNat)
  case atStart => exact ⟨0, rfl, by omega, Below.refl _ _⟩
  case round =>
    obtain ⟨k, rfl, hk, hb⟩ := hrel
    have B := Lib.hid hb
    have A1 := Lib.hid (HA.out.pure hb)
    have A2 := Lib.hid (HB.out.pure hb)
    clear hb
    by_cases hlt : k < l.length
    · obtain ⟨b, o, rfl, hbl, x, y, z, e1, e2, e3, h1, h2, h3⟩ := A1.out.at k hlt
      obtain ⟨b', o', rfl, hbl', x', y', z', e1', e2', e3', h1', h2', h3'⟩ := A2.out.at k hlt
      obtain rfl : x' = x := str_ext (by rw [e1, e1'])
      obtain rfl : y' = y := str_ext (by rw [e2, e2'])
      obtain rfl : z' = z := str_ext (by rw [e3, e3'])
      clear e1 e2 e3 e1' e2' e3'
      go_wp2_with fail
      go_quiet (fail)
      go_wp2
      go_roundw
      case rel => exact ⟨k + 1, by go_num, by omega, drewN_below B.out _⟩
      case measure => simp [intOf]; omega
    · go_wp2
      go_ret
      exact ⟨rfl, B.out⟩

/-- Texts that lie in a row of cells. -/
def TextsIn (w : World) (g : Nat) (ns : List (List UInt8)) : Prop := ∀ i (h : i < ns.length), ∃ x : ByteArray, x.data.toList = ns[i] ∧ w.cell? ⟨g, i, none⟩ = some (.string x)
def NumsIn (w : World) (g : Nat) (ms : List Nat) : Prop := ∀ i (h : i < ms.length), w.cell? ⟨g, i, none⟩ = some (.int .i64 (ms[i] : Int))
theorem TextsIn.pure {w w' : World} {g : Nat} {ns : List (List UInt8)} (h : TextsIn w g ns) (hb : Below w.heap.size w w') : TextsIn w' g ns := fun i hi => by
  obtain ⟨x, h1, h2⟩ := h i hi
  exact ⟨x, h1, (hb.cell (p := ⟨g, i, none⟩) (ltOfCell h2)).trans h2⟩
theorem NumsIn.pure {w w' : World} {g : Nat} {ms : List Nat} (h : NumsIn w g ms) (hb : Below w.heap.size w w') : NumsIn w' g ms := fun i hi => (hb.cell (p := ⟨g, i, none⟩) (ltOfCell (h i hi))).trans (h i hi)
def sizeOfF (f : FileS) : Nat := f.firm.length + f.pend.length

set_option maxRecDepth 100000 in
set_option maxHeartbeats 2000000 in
theorem sizes_any (w : World) (p b : Nat) (st : DkSt) (h : IsDk w p b st) (g1 g2 c1 c2 : Nat) (ns : List (List UInt8)) (ms : List Nat) (hn : TextsIn w g1 ns) (hm : NumsIn w g2 ms) (e1 : st.fs.map (·.name) = ns) (e2 : st.fs.map sizeOfF = ms) (n1 n2 : Nat) (hn1 : n1 = ns.length) (hn2 : n2 = ms.length) :
    Calls Tryz.prog 26 #[.pointer (some ⟨p, 0, none⟩), .slice (some ⟨g1, 0, none⟩) n1 c1, .slice (some ⟨g2, 0, none⟩) n2 c2] w fun e w' => e = .returned (.bool true) ∧ Below w.heap.size w w' := by
  subst e1 e2
  have hl1 : n1 = st.fs.length := by rw [hn1]; simp
  have hl2 : n2 = st.fs.length := by rw [hn2]; simp
  subst hl1 hl2
  have H := Lib.hid h
  have HN := Lib.hid hn
  have HM := Lib.hid hm
  have hfew := h.ok.fs.few
  have HSM := Lib.hid h.ok.fs.small
  clear h hn hm hn1 hn2
  go_enter Tryz.func26, Tryz.ntmps26
  go_wp2_with fail
  refine (dk_files w p b st H.out).mono ?_
  rintro e w1 ⟨v, rfl, hown, _, hb1⟩
  have HF := Lib.hid hown.at
  obtain ⟨a0, c0, rfl⟩ := hown.at.shape
  have HB := Lib.hid hb1
  have HN1 := Lib.hid (HN.out.pure hb1)
  have HM1 := Lib.hid (HM.out.pure hb1)
  clear hown hb1
  go_wp2
  go_loopw [8] (fun i wr => ∃ k : Nat, i = .int .i64 k ∧ k ≤ st.fs.length ∧ Below w1.heap.size w1 wr) (fun i _ => st.fs.length - (intOf i).toNat)
  case atStart => exact ⟨0, rfl, by omega, Below.refl _ _⟩
  case round =>
    obtain ⟨k, rfl, hk, hb⟩ := hrel
    have B := Lib.hid hb
    have A1 := Lib.hid (HF.out.pure hb)
    have A2 := Lib.hid (HN1.out.pure hb)
    have A3 := Lib.hid (HM1.out.pure hb)
    clear hb
    by_cases hlt : k < st.fs.length
    · obtain ⟨b, o, rfl, hbl, x, y, z, e1, e2, e3, h1, h2, h3⟩ := A1.out.at k hlt
      obtain ⟨x', e1', h1'⟩ := A2.out k (by simpa using hlt)
      have h4 := A3.out k (by simpa using hlt)
      obtain rfl : x' = x := str_ext (by rw [e1', e1]; simp)
      have hyz : ((st.fs.map sizeOfF)[k]'(by simpa using hlt)) = y.size + z.size := by rw [List.getElem_map]; unfold sizeOfF; rw [size_of_list e2, size_of_list e3]
      have hsm := HSM.out st.fs[k] (List.getElem_mem hlt)
      rw [← e2, ← e3, size_toList, size_toList] at hsm
      rw [hyz] at h4
      clear e1 e2 e3 e1' hyz
      have hcast : ((y.size + z.size : Nat) : Int) = (y.size : Int) + (z.size : Int) := by omega
      rw [hcast] at h4
      go_wp2_with fail
      go_quiet (fail)
      go_wp2
      go_roundw
      case rel => exact ⟨k + 1, by go_num, by omega, drewN_below B.out _⟩
      case measure => simp [intOf]; omega
    · go_wp2
      go_ret
      exact ⟨rfl, HB.out.trans (B.out.mono HB.out.size)⟩
end Go.Proofs.YtcdjckdbcffgdaaGreatDoor
