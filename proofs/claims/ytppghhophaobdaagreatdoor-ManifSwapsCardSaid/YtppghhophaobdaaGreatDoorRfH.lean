/- The reference's disk: drop. -/
import Derived.Test.YtppghhophaobdaaGreatDoorRfG
namespace Go.Proofs.YtppghhophaobdaaGreatDoor
open Go.RowKit Go.Maps Go.Sort

theorem RfTo.refl {w : World} {x g c : Nat} {st : DkSt} (h : IsRf w x g c st) : RfTo x g w st w := ⟨g, c, h, .inl rfl, Fr.refl _ _⟩
theorem RfTo.pure {w w' : World} {x g c : Nat} {st : DkSt} (h : IsRf w x g c st) (hb : Below w.heap.size w w') : RfTo x g w st w' := ⟨g, c, h.pure hb, .inl rfl, Fr.pure hb⟩
theorem RfTo.trans {w w1 w2 : World} {x g : Nat} {st st' : DkSt} (h : RfTo x g w st w1) (k : ∀ g' c', IsRf w1 x g' c' st → RfTo x g' w1 st' w2) : RfTo x g w st' w2 := by
  obtain ⟨g1, c1, h1, hg1, hf1⟩ := h
  obtain ⟨g2, c2, h2, hg2, hf2⟩ := k g1 c1 h1
  refine ⟨g2, c2, h2, ?_, hf1.then hf2 (fun i hi e => ?_)⟩
  · rcases hg2 with e | e
    · rw [e]; exact hg1
    · exact .inr (Nat.le_trans hf1.size e)
  · rcases e with e | e
    · exact .inl e
    · rcases hg1 with e2 | e2
      · exact .inr (e.trans e2)
      · omega

set_option maxRecDepth 100000 in
set_option maxHeartbeats 40000000 in
theorem rf_drop (w : World) (x g c : Nat) (st : DkSt) (h : IsRf w x g c st) (n : ByteArray) :
    Calls Tryz.prog 136 #[.pointer (some ⟨x, 0, none⟩), .string n] w fun e w' => e = .returned (.tuple #[]) ∧ RfTo x g w { st with fs := fsDel st.fs n.data.toList } w' := by
  have H0 := Lib.hid h
  have hle := h.le
  have hf64 := h.ok.fs.few
  have hi := atN_le st.fs n.data.toList
  have hx := h.lt
  have hok : DkOk { st with fs := fsDel st.fs n.data.toList } := ⟨h.ok.fs.del _, h.ok.cap0, h.ok.cap1, by have := h.ok.fits; have := used_del st.fs n.data.toList; show ((used (fsDel st.fs n.data.toList) : Nat) : Int) ≤ st.cap; omega, h.ok.left0, h.ok.left1⟩
  have HOK := Lib.hid hok
  clear h hok
  go_enter Tryz.func136, Tryz.ntmps136
  go_wp2_with fail
  refine (rf_at _ x g c st H0.out n).mono ?_
  rintro e w2 ⟨rfl, q, hq⟩
  have hb2 : Below w.heap.size w w2 := by rw [hq]; exact rf_drewN (Below.refl _ _) q
  have H2 := Lib.hid (H0.out.pure hb2)
  have B2 := Lib.hid hb2
  clear hq hb2
  generalize hi0 : atN st.fs n.data.toList = i at *
  have HI := Lib.hid hi0
  have hii : ((i : Nat) : Int) ≤ ((st.fs.length : Nat) : Int) := by omega
  have hcc : ((i : Nat) : Int) ≤ ((c : Nat) : Int) := by omega
  clear hi0
  cases his : isN st.fs n.data.toList
  · have HD := Lib.hid ((at_all H0.out.ok.fs.sorted n.data.toList).2 his).2.1
    clear his
    go_wp2
    go_end0
    exact ⟨rfl, by rw [HD.out]; exact RfTo.pure H0.out B2.out⟩
  · have hil : i < st.fs.length := by
      have := ((at_all H0.out.ok.fs.sorted n.data.toList).1 his).choose
      rwa [HI.out] at this
    have hi1 : ((i : Nat) : Int) + 1 ≤ ((st.fs.length : Nat) : Int) := by omega
    have hi1c : ((i : Nat) : Int) + 1 ≤ ((c : Nat) : Int) := by omega
    have hiw : IntKind.i64.wrap ((i : Int) + 1) = (i : Int) + 1 := IntWalk.i64_in _ (by omega)
    have HLL := Lib.hid (show ([] ++ st.fs.take i) ++ st.fs.drop (i + 1) = fsDel st.fs n.data.toList by
      have := ((at_all H0.out.ok.fs.sorted n.data.toList).1 his).choose_spec.2.2.1
      rw [HI.out] at this
      rw [this]; simp)
    clear his
    obtain ⟨k0, _, _, _⟩ := H2.out.cs
    have hx2 := H2.out.lt
    have zf := H2.out.fz 0
    have hg2 := H2.out.ltg
    have HS1 := Lib.hid (show ∀ W, Below w2.heap.size w2 W → FilesAt W (.slice (some ⟨g, 0, none⟩) i c) (st.fs.take i) from fun W hW => ((H2.out.own.at).take i hi).pure hW)
    have HS2 := Lib.hid (show ∀ W, Below w2.heap.size w2 W → FilesAt W (.slice (if c = i + 1 then some ⟨g, 0, none⟩ else some ⟨g, (i + 1) * 3, none⟩) (st.fs.drop (i + 1)).length (c - (i + 1))) (st.fs.drop (i + 1)) from fun W hW => by
      have := (FilesAt.drop (H2.out.own.at) (i + 1) hil hle).pure hW
      rwa [List.length_drop])
    have hK0 := Lib.hid k0
    have tok1 : True := trivial
    have hi0p : (0 : Int) ≤ (i : Int) + 1 := by omega
    have hitn : ((i : Int) + 1).toNat = i + 1 := by omega
    go_wp2_with fail
    go_region_law (first
      | (have _t := tok1; refine step_rfrow (by rfl) _ _ (by rfl) _ 0 0 [] (by rfl) rfl (by repeat (first | (with_reducible refine own_none' _ _ ?_; (first | rfl | (simp; done) | (simp; omega))) | (with_reducible refine OwnFiles.drew ?_) | (with_reducible refine OwnFiles.alloc ?_ _))) (some ⟨g, 0, none⟩) _ c (st.fs.take i) (by rfl) (by first | rfl | (simp; done) | (simp; omega)) (by rw [List.length_take, Nat.min_eq_left hi]; exact HS1.out _ (by repeat (first | exact Below.refl _ _ | refine Below.drew ?_ | refine Below.alloc ?_ (by first | (simp; done) | (simp; omega) | omega) _))) (by rw [List.length_take]; simp; omega) ?_; intro g3 c3 w3 hown3 hc3 hgrow3 hat3 hlt3; clear tok1; have HO3 := Lib.hid hown3; clear hown3; have hb3 := Below.grown (show Below w2.heap.size w2 _ from (by repeat (first | exact Below.refl _ _ | refine Below.drew ?_ | refine Below.alloc ?_ (by first | (simp; done) | (simp; omega) | omega) _))) hgrow3 (by first | (simp; done) | (simp; omega)) (fun k e => by have e2 := Option.some.inj e; omega); have HB3 := Lib.hid hb3; have hsz3 := hgrow3.size; (try simp at hsz3 hat3); have y0 := (hb3.cell (p := ⟨x, 0, none⟩) hx2).trans hK0.out; clear hb3 hgrow3)
      | (refine step_rfrow (by rfl) _ _ (by rfl) g3 _ c3 ([] ++ st.fs.take i) (by rfl) (by first | rfl | (simp; done) | (simp; omega)) (by repeat (first | (with_reducible exact HO3.out) | (with_reducible refine OwnFiles.drew ?_) | (with_reducible refine OwnFiles.alloc ?_ _))) _ _ _ (st.fs.drop (i + 1)) (by rfl) (by rw [List.length_drop]) (HS2.out _ (by repeat (first | exact HB3.out | refine Below.drew ?_ | refine Below.alloc ?_ (by first | omega | (simp; omega)) _))) (by simp; omega) ?_; intro g5 c5 w5 hown5 hc5 hgrow5 hat5 hlt5; (try simp at hat5); have HO5 := Lib.hid hown5; clear hown5; have hb5 := Below.grown (show Below w2.heap.size w2 _ from (by repeat (first | exact HB3.out | refine Below.drew ?_ | refine Below.alloc ?_ (by first | omega | (simp; omega)) _))) hgrow5 (by first | omega | (simp; omega)) (fun k e => by have e2 := Option.some.inj e; omega); have HB5 := Lib.hid hb5; have y0 := (hb5.cell (p := ⟨x, 0, none⟩) hx2).trans hK0.out; have z0 : w5.frozen? ⟨x, 0, none⟩ = false := (hb5.frozen (p := ⟨x, 0, none⟩) hx2).trans zf; clear hb5 hgrow5)
      | fail)
    all_goals
      go_wp2
      all_goals
        go_end0
        all_goals exact ⟨rfl, g5, c5, put_end (H2.out.pure HB5.out) HO5.out hc5 (by omega) HLL.out _ (by simp; omega) HOK.out, .inr (by have := B2.out.size; omega), (Fr.pure (S := fun k => k = x ∨ k = g) (B2.out.trans (HB5.out.mono B2.out.size))).setCell ⟨x, 0, none⟩ (fun _ => .inl rfl) _⟩
end Go.Proofs.YtppghhophaobdaaGreatDoor
