/- The walk of Crash. -/
import Derived.Test.YteikdcobpfohcaaGreatDoorMAe
namespace Go.Proofs.YteikdcobpfohcaaGreatDoor
open Go.RowKit Go.Maps Go.Sort

/-- How much is kept. -/
def kept (k : Int) (m : Nat) : Nat := (k % 18446744073709551616 % ((m : Int) + 1)).toNat
def crashFs : List Int → Fs → Fs
  | _, [] => []
  | ks, f :: r => if f.pend = [] then f :: crashFs ks r else match ks with
    | [] => ⟨f.name, f.firm, []⟩ :: crashFs [] r
    | k :: t => ⟨f.name, f.firm ++ f.pend.take (kept k f.pend.length), []⟩ :: crashFs t r
def dkCrash (st : DkSt) (ks : List Int) : DkSt := ⟨crashFs ks st.fs, st.cap, -1, false⟩

theorem get_mid {A B : Fs} {f : FileS} (h : (A ++ f :: B).Pairwise (fun f g => bytesBefore f.name g.name = true)) : fsGet (A ++ f :: B) f.name = some f := by
  unfold fsGet
  rw [List.find?_append]
  have hn : A.find? (fun g => g.name == f.name) = none := by
    rw [List.find?_eq_none]
    intro g hg
    have := (List.pairwise_append.1 h).2.2 g hg f (by simp)
    have := bytesBefore_ne this
    simpa using this
  rw [hn, List.find?_cons]
  simp
theorem put_mid {A B : Fs} {f g : FileS} (h : (A ++ f :: B).Pairwise (fun f g => bytesBefore f.name g.name = true)) (hn : g.name = f.name) : fsPut (A ++ f :: B) g = A ++ g :: B := by
  have hA : ∀ x ∈ A, bytesBefore x.name g.name = true := fun x hx => by rw [hn]; exact (List.pairwise_append.1 h).2.2 x hx f (by simp)
  have hB : ∀ x ∈ B, bytesBefore g.name x.name = true := fun x hx => by rw [hn]; exact (List.pairwise_cons.1 (List.pairwise_append.1 h).2.1).1 x hx
  have hd : fsDel (A ++ f :: B) g.name = A ++ B := by
    unfold fsDel
    rw [List.filter_append, List.filter_cons, show (f.name == g.name) = true from by rw [hn]; simp]
    rw [List.filter_eq_self.2 (fun x hx => by have := bytesBefore_ne (hA x hx); simpa using this), if_neg (by simp), List.filter_eq_self.2 (fun x hx => by have := (bytesBefore_ne (hB x hx)).symm; simpa using this)]
  unfold fsPut
  rw [hd]
  clear hd h
  induction A with
  | nil =>
    cases B with
    | nil => rfl
    | cons x r => show fsIns g (x :: r) = _; unfold fsIns; rw [hB x (by simp)]; rfl
  | cons x r ih =>
    have hx := hA x (by simp)
    have hx2 : bytesBefore g.name x.name = false := by
      cases e : bytesBefore g.name x.name
      · rfl
      · have := WideShapes.bytes_trans _ _ _ hx e; rw [WideAt.bytes_irrefl] at this; cases this
    show fsIns g (x :: (r ++ B)) = _
    unfold fsIns
    rw [hx2, ih (fun y hy => hA y (by simp [hy]))]; rfl
theorem used_append (A B : Fs) : used (A ++ B) = used A + used B := by unfold used; rw [List.map_append, List.sum_append]

theorem crash_firm {ks : List Int} {f : FileS} {r : Fs} (h : f.pend = []) : crashFs ks (f :: r) = f :: crashFs ks r := by cases ks <;> rw [crashFs, if_pos h]
theorem crash_none {f : FileS} {r : Fs} (h : f.pend ≠ []) : crashFs [] (f :: r) = ⟨f.name, f.firm, []⟩ :: crashFs [] r := by rw [crashFs, if_neg h]
theorem crash_some {k : Int} {t : List Int} {f : FileS} {r : Fs} (h : f.pend ≠ []) : crashFs (k :: t) (f :: r) = ⟨f.name, f.firm ++ f.pend.take (kept k f.pend.length), []⟩ :: crashFs t r := by rw [crashFs, if_neg h]

/-- A slice of ints that holds ks. -/
def IntsAt (w : World) (sv : Value) (ks : List Int) : Prop :=
  ∃ a c, sv = .slice a ks.length c ∧ ks.length ≤ c ∧ (ks = [] ∨ ∃ b o, a = some ⟨b, o, none⟩ ∧ ∀ i (h : i < ks.length), w.cell? ⟨b, o + i, none⟩ = some (.int .i64 ks[i]))
theorem IntsAt.kept {S : Nat → Prop} {w w' : World} {sv : Value} {ks : List Int} (h : IntsAt w sv ks) (hf : Fr S w w') (hs : ∀ g, sv.ownBlock = some g → ¬ S g) : IntsAt w' sv ks := by
  obtain ⟨a, c, rfl, hc, h | ⟨b, o, rfl, h⟩⟩ := h
  · exact ⟨a, c, rfl, hc, .inl h⟩
  · exact ⟨_, c, rfl, hc, .inr ⟨b, o, rfl, fun i hi => hf.cellAt (h i hi) (hs b rfl)⟩⟩
theorem IntsAt.tail {w : World} {b o c : Nat} {k : Int} {t : List Int} (h : ∀ i (h : i < (k :: t).length), w.cell? ⟨b, o + i, none⟩ = some (.int .i64 (k :: t)[i])) (hc : t.length + 1 ≤ c) : IntsAt w (.slice (some ⟨b, o + 1, none⟩) t.length (c - 1)) t :=
  ⟨_, c - 1, rfl, by omega, .inr ⟨b, o + 1, rfl, fun i hi => by have := h (i + 1) (by simp; omega); rw [show o + 1 + i = o + (i + 1) from by omega]; simpa using this⟩⟩

theorem look_plain (w : World) (b : Nat) (fs : Fs) (hown : w.ownsMap Tryz.prog 9 fileElem b fs.length (fsD fs)) (n : ByteArray) (hn : n.size ≤ maxLen) :
    ∃ f1 f2, (Instr.lookup 88 (.map (some b)) (.string n) false).run Tryz.prog w = .ok (.agg #[.string f1, .string f2]) w ∧ GotFile fs n.data.toList f1 f2 := by
  obtain ⟨es, clock, hb, F, _, hD⟩ := hown
  have hkey := WideMaps.keyOf_string_mk Tryz.underlying9 hn
  rcases Maps.fit_look false Tryz.strKey Tryz.underlying88 (Tryz.zeroFile w) hb F hkey with ⟨hrun, _, hat⟩ | ⟨e0, y, _, _, hrun, hRv, hat, _⟩
  · rw [← hD] at hat
    refine ⟨⟨#[]⟩, ⟨#[]⟩, hrun, ?_⟩
    have h := hat (.agg [.lit (.string []), .lit (.string [])])
    obtain ⟨a, b, e, hg⟩ := gotFile_of (v := fileV ⟨#[]⟩ ⟨#[]⟩) (ps := []) (fs := fs) (n := n.data.toList) (by rw [h]; rfl)
    have e2 : a = ⟨#[]⟩ ∧ b = ⟨#[]⟩ := by simpa [fileV, eq_comm] using e
    rw [e2.1, e2.2] at hg; exact hg
  · rw [← hD] at hat
    have h := hat (.agg [.lit (.string []), .lit (.string [])])
    obtain ⟨a, b, e, hg⟩ := gotFile_of (v := e0.val) (ps := y.2) (fs := fs) (n := n.data.toList) (by rw [h]; exact hRv)
    rw [e] at hrun
    exact ⟨a, b, hrun, hg⟩

/-- The names as a row of strings: each element's cell. -/
theorem row_names {w : World} {base : Nat} {v : Value} {ns : List (List UInt8)} {n : Nat} (h : w.ownsRow base 9 1 v n (ns.map encStr)) : ∃ a c, v = .slice a n c ∧ n = ns.length ∧ ∀ i (hi : i < ns.length), ∃ g, a = some ⟨g, 0, none⟩ ∧ base ≤ g ∧ w.cell? ⟨g, i, none⟩ = some (.string ⟨ns[i].toArray⟩) := by
  obtain ⟨hl, ⟨rfl, rfl⟩ | ⟨g, cap, cur, rfl, hb, hh, hn, _, hsz, ht⟩⟩ := h
  · simp at hl
    exact ⟨none, 0, rfl, by simp [hl], fun i hi => by rw [hl] at hi; simp at hi⟩
  · simp at hl
    refine ⟨_, cap, rfl, hl.symm, fun i hi => ⟨g, rfl, hb, ?_⟩⟩
    rw [cell_of_row w g i _ _ _ hh]
    have e : (ns.map encStr)[i]? = some (encStr ns[i]) := by simp [hi]
    rw [← ht, List.getElem?_take, if_pos (by omega)] at e
    rw [← Array.getElem?_toList]; exact e

theorem crash_store (w : World) (p b : Nat) (st : DkSt) (A r : Fs) (f : FileS) (h : IsDk w p b { st with fs := A ++ f :: r }) (x f4 : ByteArray) (firm : List UInt8) (hx : x.data.toList = f.name) (h4 : f4.data.toList = firm) (hl : firm.length ≤ f.firm.length + f.pend.length) :
    ∃ w6, (Instr.mapUpdate 88 (.map (some b)) (.string x) (.agg #[.string f4, .string ⟨#[]⟩])).run Tryz.prog w.drew = .ok () w6 ∧ IsDk w6 p b { st with fs := A ++ [⟨f.name, firm, []⟩] ++ r } ∧ Fr (fun k => k = b) w w6 := by
  have hg := get_mid h.ok.fs.sorted
  have hsm := h.ok.fs.small f (get_name hg).2
  have hname := h.ok.fs.names f (get_name hg).2
  obtain ⟨w6, h1, h2, h3⟩ := put_store w p b _ h x f4 ⟨#[]⟩ (by have := size_of_list hx; unfold maxLen; omega) f (by rw [hx]; exact hg) firm [] h4 rfl (by simp; omega) (by have hft : (used (A ++ f :: r) : Int) ≤ st.cap := h.ok.fits; show (used (A ++ f :: r) : Int) + ((firm.length + 0 : Nat) : Int) ≤ st.cap + ((f.firm.length + f.pend.length : Nat) : Int); omega)
  refine ⟨w6, h1, ?_, h3⟩
  rw [hx] at h2
  have e : fsPut (A ++ f :: r) ⟨f.name, firm, []⟩ = A ++ [⟨f.name, firm, []⟩] ++ r := by rw [put_mid (g := ⟨f.name, firm, []⟩) h.ok.fs.sorted rfl]; simp
  rw [← e]; exact h2

set_option maxRecDepth 100000 in
set_option maxHeartbeats 2500000 in
theorem dk_crash (w : World) (p b : Nat) (st : DkSt) (h : IsDk w p b st) (kv : Value) (ks : List Int) (hk : IntsAt w kv ks) (hkb : ∀ g, kv.ownBlock = some g → g ≠ p ∧ g ≠ b) :
    Calls Tryz.prog 23 #[.pointer (some ⟨p, 0, none⟩), kv] w fun e w' => e = .returned (.int .i64 0) ∧ IsDk w' p b (dkCrash st ks) ∧ DFr p b w w' := by
  have H := Lib.hid h
  have HK := Lib.hid hk
  have hp := h.lt
  have hbl := h.own.lt
  clear h hk
  obtain ⟨a0, c0, rfl⟩ : ∃ a c, kv = .slice a ks.length c := by obtain ⟨a, c, e, _⟩ := HK.out; exact ⟨a, c, e⟩
  go_enter Tryz.func23, Tryz.ntmps23
  go_wp2_with fail
  refine (dk_names w p b st H.out).mono ?_
  rintro e w1 ⟨v, rfl, hown, hb1⟩
  obtain ⟨ga, gc, rfl, _, hrow⟩ := row_names hown
  have HR := Lib.hid hrow
  have HB1 := Lib.hid hb1
  have hfew := H.out.ok.fs.few
  have hs1 := hb1.size
  clear hown hrow hb1
  rename_i hnl
  clear hnl
  go_wp2
  go_loopw [1, 14] (fun kv i wr => ∃ (A B : Fs) (ks' : List Int), i = .int .i64 A.length ∧ A.length + B.length = st.fs.length ∧ IntsAt wr kv ks' ∧ (∀ g, kv.ownBlock = some g → g ≠ p ∧ g ≠ b) ∧ crashFs ks st.fs = A ++ crashFs ks' B ∧ IsDk wr p b { st with fs := A ++ B } ∧ (A ++ B).map (·.name) = st.fs.map (·.name) ∧ DFr p b w1 wr) (fun _ i _ => st.fs.length - (intOf i).toNat)
  case atStart => exact ⟨[], st.fs, ks, rfl, by simp, HK.out.kept (Fr.pure (S := fun _ => False) HB1.out) (fun _ _ h => h), hkb, rfl, H.out.pure HB1.out, rfl, Fr.refl _ _⟩
  case round =>
    obtain ⟨A, B, ks', rfl, hAB, hks, hkb', heq, hdk, hnm, hfr⟩ := hrel
    have hks2 := hks
    obtain ⟨a1, c1, rfl, hkc, _⟩ := hks2
    cases B with
    | nil =>
      have hAB2 : A.length = st.fs.length := by rw [← hAB]; simp
      have hz2 := hdk.fz 2
      have hz3 := hdk.fz 3
      obtain ⟨d0, d1, d2, d3⟩ := hdk.cs
      have HQ := Lib.hid (And.intro heq (And.intro hdk hfr))
      clear heq hdk hnm hfr hks
      go_wp2
      go_ret
      obtain ⟨heq, hdk, hfr⟩ := HQ.out
      refine ⟨rfl, ?_, (Fr.pure HB1.out).trans (((hfr.setCell ⟨p, 2, none⟩ (fun _ => .inl rfl) _)).setCell ⟨p, 3, none⟩ (fun _ => .inl rfl) _)⟩
      have e1 : crashFs ks' [] = [] := by cases ks' <;> rfl
      rw [e1] at heq
      unfold dkCrash
      rw [heq]
      exact (hdk.setLeft (-1) (by omega) (by omega)).setDark false
    | cons f r =>
      have hlt : A.length < st.fs.length := by rw [← hAB]; simp
      obtain ⟨g, rfl, hg, hcell⟩ := HR.out A.length (by simp; omega)
      have hcell := hfr.cellAt hcell (by omega)
      have hna : (st.fs.map (·.name))[A.length]'(by simp; omega) = f.name := by
        have : ((A ++ f :: r).map (·.name))[A.length]'(by simp) = f.name := by simp
        rw [← this]; congr 1; exact hnm.symm
      rw [hna] at hcell
      have hsrt := hdk.ok.fs.sorted
      have hget := get_mid hsrt
      have hname := hdk.ok.fs.names f (get_name hget).2
      have hsm := hdk.ok.fs.small f (get_name hget).2
      obtain ⟨x, hx⟩ : ∃ x : ByteArray, x = ⟨f.name.toArray⟩ := ⟨_, rfl⟩
      have hxl : x.data.toList = f.name := by rw [hx]
      rw [← hx] at hcell
      obtain ⟨f1, f2, hlook, hgot⟩ := look_plain wr b (A ++ f :: r) hdk.own x (by have := size_of_list hxl; unfold maxLen; omega)
      have hgf : f1.data.toList = f.firm ∧ f2.data.toList = f.pend := by unfold GotFile at hgot; rw [hxl, hget] at hgot; exact hgot
      obtain ⟨d0, d1, d2, d3⟩ := hdk.cs
      have HX := Lib.hid hx
      clear hx
      clear hna hget hgot
      by_cases hpe : f.pend = []
      · have hE : f2.toList.isEmpty = true := by rw [ByteArray.toList_eq, hgf.2, hpe]; rfl
        have hAB2 : A.length + 1 + r.length = st.fs.length := by rw [← hAB]; simp; omega
        have HQ := Lib.hid (And.intro hks (And.intro heq (And.intro hdk (And.intro hnm hfr))))
        clear hks heq hdk hnm hfr hsrt
        go_wp2
        go_roundw
        case rel =>
          obtain ⟨hks, heq, hdk, hnm, hfr⟩ := HQ.out
          have e1 : A ++ [f] ++ r = A ++ f :: r := by simp
          have hbz : Below wr.heap.size wr (wr.alloc (.cells #[.string f1, .string f2] 93)) := (Below.refl _ _).alloc (Nat.le_refl _) _
          exact ⟨A ++ [f], r, ks', by simp, by rw [List.length_append]; exact hAB2, hks.kept (Fr.pure (S := fun _ => False) hbz) (fun _ _ h => h), hkb', by rw [heq, crash_firm hpe]; simp, by rw [e1]; exact hdk.pure hbz, by rw [e1]; exact hnm, hfr.andPure hbz⟩
        case measure => simp [intOf]; omega
      · have hE : f2.toList.isEmpty = false := by
          rw [ByteArray.toList_eq, hgf.2]; cases hfp : f.pend with
          | nil => exact absurd hfp hpe
          | cons => rfl
        have hAB2 : A.length + 1 + r.length = st.fs.length := by rw [← hAB]; simp; omega
        have HQ := Lib.hid (And.intro heq (And.intro hdk (And.intro hnm hfr)))
        clear heq hdk hnm hfr hsrt
        cases ks' with
        | nil =>
          have HKS := Lib.hid hks
          clear hks
          have hbz : Below wr.heap.size wr (wr.alloc (.cells #[.string f1, .string f2] 93)) := (Below.refl _ _).alloc (Nat.le_refl _) _
          have hsz1 : f1.size + f2.size ≤ 9223372036854775807 := by rw [size_of_list hgf.1, size_of_list hgf.2]; omega
          obtain ⟨w6, hrun, hd6, hf6⟩ := crash_store _ p b st A r f (HQ.out.2.1.pure hbz) x f1 f.firm hxl hgf.1 (by omega)
          have c0 : (wr.alloc (.cells #[.string f1, .string f2] 93)).cell? ⟨p, 0, none⟩ = some (.map (some b)) := (HQ.out.2.1.pure hbz).cs.1
          have HR6 := Lib.hid (And.intro hbz (And.intro hd6 hf6))
          clear hbz hd6 hf6
          go_wp2
          go_region
          go_wp2
          go_roundw
          case rel =>
            obtain ⟨heq, hdk, hnm, hfr⟩ := HQ.out
            obtain ⟨hbz, hd6, hf6⟩ := HR6.out
            exact ⟨A ++ [⟨f.name, f.firm, []⟩], r, [], by simp, by rw [List.length_append]; exact hAB2, ⟨_, c1, rfl, by simp, .inl rfl⟩, hkb', by rw [heq, crash_none hpe]; simp, hd6, by rw [← hnm]; simp, (hfr.andPure hbz).trans hf6.toD⟩
          case measure => simp [intOf]; omega
        | cons k t =>
          obtain ⟨a2, c2, e2, hkc2, hk0 | ⟨kb, o, rfl, hkc3⟩⟩ := hks
          · cases hk0
          · cases e2
            have hk0 := hkc3 0 (by simp)
            simp only [Nat.add_zero, List.getElem_cons_zero] at hk0
            have HKC := Lib.hid hkc3
            have hbz : Below wr.heap.size wr (wr.alloc (.cells #[.string f1, .string f2] 93)) := (Below.refl _ _).alloc (Nat.le_refl _) _
            have hk1 : (wr.alloc (.cells #[.string f1, .string f2] 93)).cell? ⟨kb, o, none⟩ = some (.int .i64 k) := by rw [World.cell?_alloc_past _ _ _ (ltOfCell hk0)]; exact hk0
            have c0 : (wr.alloc (.cells #[.string f1, .string f2] 93)).cell? ⟨p, 0, none⟩ = some (.map (some b)) := (HQ.out.2.1.pure hbz).cs.1
            have hsz1 : f1.size + f2.size ≤ 1048576 := by rw [size_of_list hgf.1, size_of_list hgf.2]; omega
            have hw1 : IntKind.i64.wrap ((f2.size : Int) + 1) = (f2.size : Int) + 1 := IntWalk.i64_in _ (by omega)
            clear hkc3 hk0 hbz
            go_wp2
            go_quiet (fail)
            obtain ⟨mm, hmm, hml, hmk⟩ : ∃ mm : Nat, (IntKind.u64.wrap k).tmod ((f2.size : Int) + 1) = (mm : Int) ∧ mm ≤ f2.size ∧ mm = kept k f.pend.length := by
              have e1 : IntKind.u64.wrap k = k % 18446744073709551616 := rfl
              have e0 : 0 ≤ k % 18446744073709551616 := Int.emod_nonneg _ (by decide)
              have e2 : 0 ≤ k % 18446744073709551616 % ((f2.size : Int) + 1) := Int.emod_nonneg _ (by omega)
              have e3 : k % 18446744073709551616 % ((f2.size : Int) + 1) < (f2.size : Int) + 1 := Int.emod_lt_of_pos _ (by omega)
              refine ⟨(k % 18446744073709551616 % ((f2.size : Int) + 1)).toNat, ?_, by omega, ?_⟩
              · rw [e1, Int.tmod_eq_emod_of_nonneg e0, Int.toNat_of_nonneg e2]
              · unfold kept; rw [← size_of_list hgf.2]
            rw [hmm]
            have HMK := Lib.hid hmk
            clear hmm hmk
            have hbz : Below wr.heap.size wr ((wr.alloc (.cells #[.string f1, .string f2] 93)).drewN nq) := by have := (Below.refl wr.heap.size wr).alloc (Nat.le_refl _) (.cells #[.string f1, .string f2] 93); exact ⟨this.os, this.tape, this.output, this.size, this.block⟩
            have hcl : (f2.extract 0 mm).data.toList = f.pend.take mm := by rw [cut_list, hgf.2]; simp
            have hcs := cut_size f2 0 mm hml (Nat.zero_le _)
            have hsz2 : f1.size + (f2.extract 0 mm).size ≤ 9223372036854775807 := by omega
            obtain ⟨w6, hrun, hd6, hf6⟩ := crash_store _ p b st A r f (HQ.out.2.1.pure hbz) x (f1 ++ f2.extract 0 mm) (f.firm ++ f.pend.take mm) hxl (by rw [bytes_append, hgf.1, hcl]) (by rw [List.length_append, List.length_take]; omega)
            have hrun2 : (Instr.mapUpdate 88 (.map (some b)) (.string x) (.agg #[.string (f1 ++ f2.extract 0 mm), .string ⟨#[]⟩])).run Tryz.prog ((wr.alloc (.cells #[.string f1, .string f2] 93)).drewN (nq + 1)) = .ok () w6 := hrun
            have HR6 := Lib.hid (And.intro hbz (And.intro hd6 hf6))
            clear hbz hd6 hf6 hrun hcl
            by_cases hc1 : c1 = 1
            · have ht0 : t = [] := by have := hkc2; simp at this; exact List.eq_nil_of_length_eq_zero (by omega)
              go_wp2
              go_region
              go_wp2
              go_roundw
              case rel =>
                obtain ⟨heq, hdk, hnm, hfr⟩ := HQ.out
                obtain ⟨hbz, hd6, hf6⟩ := HR6.out
                have hfw : Fr (fun k => k = b) wr w6 := (Fr.pure hbz).trans hf6
                have hkk := hkb' kb rfl
                refine ⟨A ++ [⟨f.name, f.firm ++ f.pend.take mm, []⟩], r, t, by simp, by rw [List.length_append]; exact hAB2, (by rw [ht0]; exact ⟨_, 0, rfl, by simp, .inl rfl⟩), fun g hg => by cases hg; exact hkk, by rw [heq, crash_some hpe, HMK.out]; simp, hd6, by rw [← hnm]; simp, (hfr.andPure hbz).trans hf6.toD⟩
              case measure => simp [intOf]; omega
            · have hc2 : 1 < c1 := by simp at hkc2; omega
              go_wp2
              go_region
              go_wp2
              go_roundw
              case rel =>
                obtain ⟨heq, hdk, hnm, hfr⟩ := HQ.out
                obtain ⟨hbz, hd6, hf6⟩ := HR6.out
                have hfw : Fr (fun k => k = b) wr w6 := (Fr.pure hbz).trans hf6
                have hkk := hkb' kb rfl
                refine ⟨A ++ [⟨f.name, f.firm ++ f.pend.take mm, []⟩], r, t, by simp, by rw [List.length_append]; exact hAB2, (IntsAt.tail HKC.out (by simpa using hkc2)).kept hfw (fun g hg => by cases hg; exact hkk.2), fun g hg => by cases hg; exact hkk, by rw [heq, crash_some hpe, HMK.out]; simp, hd6, by rw [← hnm]; simp, (hfr.andPure hbz).trans hf6.toD⟩
              case measure => simp [intOf]; omega

end Go.Proofs.YteikdcobpfohcaaGreatDoor
