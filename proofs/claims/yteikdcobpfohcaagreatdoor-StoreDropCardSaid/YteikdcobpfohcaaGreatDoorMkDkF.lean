/- The walk of Same (of disks alike). -/
import Derived.Test.YteikdcobpfohcaaGreatDoorMkDkE
namespace Go.Proofs.YteikdcobpfohcaaGreatDoor
open Go.RowKit Go.Maps Go.Sort

theorem same_files {fs : Fs} {n : List UInt8} {f : FileS} {f1 f2 g1 g2 : ByteArray} (hg : fsGet fs n = some f) (hf : GotFile fs n g1 g2) (h1 : f1.data.toList = f.firm) (h2 : f2.data.toList = f.pend) : (f1.toList == g1.toList) = true ∧ (f2.toList == g2.toList) = true := by
  unfold GotFile at hf
  rw [hg] at hf
  exact ⟨str_eq_true (h1.trans hf.1.symm), str_eq_true (h2.trans hf.2.symm)⟩

set_option maxRecDepth 100000 in
set_option maxHeartbeats 2000000 in
theorem equal_files (w : World) (b c : Nat) (fs : Fs) (h1 : w.ownsMap Tryz.prog 9 fileElem b fs.length (fsD fs)) (h2 : w.ownsMap Tryz.prog 9 fileElem c fs.length (fsD fs)) (hfs : FsOk fs) :
    Calls Tryz.prog 43 #[.map (some b), .map (some c)] w fun e w' => e = .returned (.bool true) ∧ Below w.heap.size w w' := by
  have hbl := h1.lt
  have hcl := h2.lt
  have l1 : ∀ ty, (Builtin.len_ #[88] ty #[.map (some b)]).run Tryz.prog w = .ok (.int .i64 (fs.length : Nat)) w := fun ty => by have := h1.len (t := 88) Tryz.underlying88 ty; rw [size_fs] at this; exact this
  have l2 : ∀ ty, (Builtin.len_ #[88] ty #[.map (some c)]).run Tryz.prog w = .ok (.int .i64 (fs.length : Nat)) w := fun ty => by have := h2.len (t := 88) Tryz.underlying88 ty; rw [size_fs] at this; exact this
  have H1 := Lib.hid h1
  have H2 := Lib.hid h2
  have HF := Lib.hid hfs
  clear h1 h2 hfs
  go_enter Tryz.func43, Tryz.ntmps43
  go_wp2_with (first
    | (at_range; refine wpList_range_own _ rfl _ 88 rfl 9 93 Tryz.strKey Tryz.underlying88 fileElem b fs.length _ rfl H1.out ?_; intro w0 hrg0 hg0 hs0)
    | go_in)
  have HR0 := Lib.hid (And.intro hrg0 hg0)
  clear hrg0 hg0 l1 l2
  go_frame
  go_loopw [16] (fun _ wr => ∃ left cnt, wr.ranges Tryz.prog 9 fileElem b w.heap.size fs.length (fsD fs) left cnt ∧ wr.ownsMap Tryz.prog 9 fileElem c fs.length (fsD fs) ∧ Below w.heap.size w wr) (fun _ wr => wr.rangeLeft b w.heap.size)
  case atStart => exact ⟨_, _, HR0.out.1, H2.out.kept HR0.out.2 (by simp), ⟨HR0.out.2.os, HR0.out.2.tape, HR0.out.2.output, HR0.out.2.size, fun k hk => HR0.out.2.block k hk (by simp)⟩⟩
  case round =>
    obtain ⟨left, cnt, hrg, h2r, hbw⟩ := hrel
    have HB := Lib.hid hbw
    have H2R := Lib.hid h2r
    clear hbw h2r
    go_wp2_with (at_next; refine wpList_next_files _ rfl _ rfl b w.heap.size fs _ _ rfl hrg ?_ ?_)
    · intro hl0
      clear hl0
      go_wp2
      go_ret
      exact ⟨rfl, HB.out⟩
    · intro x f1 f2 f w1 cnt1 hget h1 h2 hlx hrg1 hlt hg1 hs1 hen
      have hsn := size_of_list (show x.data.toList = f.name from (get_name hget).1.symm)
      have hnl := HF.out.names f (get_name hget).2
      have hxm : x.size ≤ maxLen := by unfold maxLen; omega
      have h2w1 := H2R.out.kept hg1 (fun e => by cases e; omega)
      have HW := Lib.hid ((h2w1.alloc (.cells #[.string f1, .string f2] 93)))
      have HW0 := Lib.hid h2w1
      have HG := Lib.hid hget
      have HC := Lib.hid (And.intro h1 h2)
      have HB1 := Lib.hid (HB.out.grown hg1 HB.out.size (fun k e => by cases e; exact Nat.le_refl _))
      have HRG := Lib.hid (And.intro hrg1 hlt)
      clear hget h1 h2 hlx hsn hnl hrg1 hlt hg1 h2w1
      go_wp2_with (at_lookup; refine wpList_look_ok _ rfl _ _ rfl c fs rfl HW.out x rfl hxm ?_; intro g1 g2 hf; have e12 := same_files HG.out hf HC.out.1 HC.out.2; have e1 := e12.1; have e2 := e12.2; clear hf e12; rw [HG.out])
      have hbz := box2_below w1 (.cells #[.string f1, .string f2] 93) (.cells #[.string g1, .string g2] 93)
      have hrg2 := (HRG.out.1.kept (below_grown hbz none) (by simp) (by simp))
      go_roundw
      case rel => exact ⟨_, cnt1, hrg2, ownsMap_fr HW0.out (Fr.pure (S := fun _ => False) hbz) (fun h => h), HB1.out.trans (hbz.mono HB1.out.size)⟩
      case measure => rw [hrg2.left_eq, hrg.left_eq]; exact HRG.out.2

set_option maxRecDepth 100000 in
set_option maxHeartbeats 1000000 in
/-- Two disks alike are told to be the same. -/
theorem dk_same (w : World) (p b q c : Nat) (st : DkSt) (h1 : IsDk w p b st) (h2 : IsDk w q c st) :
    Calls Tryz.prog 19 #[.pointer (some ⟨p, 0, none⟩), .pointer (some ⟨q, 0, none⟩)] w fun e w' => e = .returned (.bool true) ∧ Below w.heap.size w w' := by
  obtain ⟨c0, c1, c2, c3⟩ := h1.cs
  obtain ⟨d0, d1, d2, d3⟩ := h2.cs
  have H1 := Lib.hid h1
  have H2 := Lib.hid h2
  clear h1 h2
  have k0 := cell_regrown c0
  have k1 := cell_regrown c1
  have k2 := cell_regrown c2
  have k3 := cell_regrown c3
  have m0 := cell_regrown d0
  have m1 := cell_regrown d1
  have m2 := cell_regrown d2
  have m3 := cell_regrown d3
  have q1 : ∀ d os, Calls Tryz.prog 43 #[.map (some b), .map (some c)] (grow (redrawn w d) os) fun e w'' => e = .returned (.bool true) ∧ ∃ p : Regrown, w'' = grow (redrawn w p.d) p.os := fun d os => Calls.regrown_of (equal_files _ b c st.fs (H1.out.pure (below_regrown w d os)).own (H2.out.pure (below_regrown w d os)).own H1.out.ok.fs)
  go_enter Tryz.func19, Tryz.ntmps19
  go_wp2_with fail
  refine wp_region_quiet_below (by kernel_rfl) (by kernel_rfl) ?_
  repeat (go_big_quiet_step (first | exact q1 _ _))
  refine wpQuiet_nil ?_
  intro _ hw'
  obtain ⟨⟨dq, osq⟩, hw''⟩ := hw'
  subst hw''
  go_wp2
  go_ret
  exact ⟨rfl, below_regrown w dq osq⟩

end Go.Proofs.YteikdcobpfohcaaGreatDoor
