/- The walk of the law ManifWhole. -/
import Derived.Test.YtljmekdilhphaaaGreatDoorWhM
namespace Go.Proofs.YtljmekdilhphaaaGreatDoor
open Go.RowKit Go.Maps Go.Sort

/-- No MANIFEST ahead of place k has anything pending. -/
def NoPend (l : Fs) (k : Nat) : Prop := ∀ j (h : j < l.length), j < k → l[j].name = fileN → l[j].pend = []
theorem NoPend.step {l : Fs} {k : Nat} (h : NoPend l k) (hk : k < l.length) (hn : l[k].name = fileN → l[k].pend = []) : NoPend l (k + 1) := by
  intro j hj hlt hname
  rcases Nat.lt_or_eq_of_le (Nat.le_of_lt_succ hlt) with h1 | h1
  · exact h j hj h1 hname
  · subst h1; exact hn hname
theorem NoPend.all {l : Fs} (h : NoPend l l.length) : ∀ f, fsGet l fileN = some f → f.pend = [] := by
  intro f hf
  obtain ⟨hn, hm⟩ := get_name hf
  obtain ⟨j, hj, rfl⟩ := List.mem_iff_getElem.1 hm
  exact h j hj hj hn

set_option maxRecDepth 100000 in
set_option maxHeartbeats 4000000 in
theorem manifWhole_any (w : World) (hp : Pow w) (cp : Int) (sv : Value) (l : Fs) (hl : FilesAt w sv l) (hlen : l.length ≤ 4398046511104) (hsz : ∀ f ∈ l, f.name.length ≤ 140737488355328 ∧ f.firm.length ≤ 140737488355328 ∧ f.pend.length ≤ 140737488355328) (hcp : cp ≤ 9223372036854775807)
    (g : Int) (mv : Value) (m : Segs) (hm : SegsAt w mv m) (hml : m.length ≤ 9223372036854775807) (cut : Int) (hc0 : -9223372036854775808 ≤ cut) (hc1 : cut ≤ 9223372036854775807) (kv : Value) (ks : List Int) (hk : IntsAt w kv ks) (hkl : ks.length ≤ 9223372036854775807) (hkb : ∀ j, kv.ownBlock = some j → j < w.heap.size) :
    Calls Tryz.prog 6 #[.int .i64 cp, sv, .agg #[.int .i64 g, mv], .int .i64 cut, kv] w fun e w' => e = .returned (.bool true) ∧ Below w.heap.size w w' := by
  obtain ⟨am, cm, rfl⟩ := hm.shape
  obtain ⟨ak, ck, rfl⟩ : ∃ a c, kv = .slice a ks.length c := by obtain ⟨a, c, e, _⟩ := hk; exact ⟨a, c, e⟩
  have hbz : Below w.heap.size w (w.alloc (.cells #[.int .i64 g, .slice am m.length cm] 24)) := (Below.refl _ _).alloc (Nat.le_refl _) _
  have HB := Lib.hid hbz
  have HP := Lib.hid (below_pow hbz hp)
  have HL := Lib.hid (hl.pure hbz)
  have HL0 := Lib.hid hl
  have HM := Lib.hid hm
  have HK := Lib.hid hk
  have HKB := Lib.hid hkb
  clear hl hm hk hbz hp hkb
  go_enter Tryz.func6, Tryz.ntmps6
  go_wp2_with fail
  refine (many_any _ sv l HL.out hlen).mono ?_
  rintro e w1 ⟨⟨bo, rfl⟩, hb1⟩
  have B1 := Lib.hid (HB.out.trans (hb1.mono HB.out.size))
  have P1 := Lib.hid (below_pow hb1 HP.out)
  have n0 : w1.cell? ⟨w.heap.size, 0, none⟩ = some (.int .i64 g) := by rw [hb1.cell (by simp), World.cell?_alloc_at _ _ _ _ rfl]; rfl
  have n1 : w1.cell? ⟨w.heap.size, 1, none⟩ = some (.slice am m.length cm) := by rw [hb1.cell (by simp), World.cell?_alloc_at _ _ _ _ rfl]; rfl
  have hl1 : w.heap.size < w1.heap.size := ltOfCell n0
  clear hb1
  cases bo
  · by_cases h100 : 100 < m.length
    · go_wp2_with fail
      refine (awake_any _ P1.out).mono ?_
      rintro e w2 ⟨rfl, hb2⟩
      have B2 := Lib.hid (B1.out.trans (hb2.mono B1.out.size))
      clear hb2
      go_wp2
      go_ret
      exact ⟨rfl, B2.out⟩
    · by_cases hk100 : 100 < ks.length
      · go_wp2_with fail
        refine (awake_any _ P1.out).mono ?_
        rintro e w2 ⟨rfl, hb2⟩
        have B2 := Lib.hid (B1.out.trans (hb2.mono B1.out.size))
        clear hb2
        go_wp2
        go_ret
        exact ⟨rfl, B2.out⟩
      · go_wp2_with fail
        refine (awake_any _ P1.out).mono ?_
        rintro e w2 ⟨rfl, hb2⟩
        have B2 := Lib.hid (B1.out.trans (hb2.mono B1.out.size))
        have n0 := (hb2.cell (p := ⟨w.heap.size, 0, none⟩) hl1).trans n0
        have n1 := (hb2.cell (p := ⟨w.heap.size, 1, none⟩) hl1).trans n1
        have hl2 : w.heap.size < w2.heap.size := ltOfCell n0
        have HL2 := Lib.hid (HL0.out.pure B2.out)
        clear hb2
        go_wp2_with fail
        refine (dk_load w2 cp sv l HL2.out hlen hsz hcp).mono ?_
        rintro e w3 ⟨hb3, hload⟩
        have B3 := Lib.hid (B2.out.trans (hb3.mono B2.out.size))
        have n0 := (hb3.cell (p := ⟨w.heap.size, 0, none⟩) hl2).trans n0
        have n1 := (hb3.cell (p := ⟨w.heap.size, 1, none⟩) hl2).trans n1
        have hl3 : w.heap.size < w3.heap.size := ltOfCell n0
        have hs23 := hb3.size
        clear hb3
        rcases load_cases cp l with ⟨c, hcf, hc0, hld⟩ | hld
        · rw [hld] at hload
          simp only at hload
          subst hload
          clear hld
          go_wp2
          go_ret
          exact ⟨rfl, B3.out⟩
        · rw [hld] at hload
          obtain ⟨p, b, hpg, hbg, rfl, hd3⟩ := hload
          have HD3 := Lib.hid hd3
          have hp3 := hd3.lt
          have HLL := Lib.hid (show l.length ≤ 64 from hd3.ok.fs.few)
          have HSML := Lib.hid (show ∀ f ∈ l, f.firm.length + f.pend.length ≤ 1048576 from hd3.ok.fs.small)
          have hbl3 := hd3.own.lt
          clear hld hd3
          go_wp2_with fail
          refine (dk_files w3 p b _ HD3.out).mono ?_
          rintro e w4 ⟨v, rfl, hv, hvb, hb4⟩
          have B4 := Lib.hid (B3.out.trans (hb4.mono B3.out.size))
          have n0 := (hb4.cell (p := ⟨w.heap.size, 0, none⟩) hl3).trans n0
          have n1 := (hb4.cell (p := ⟨w.heap.size, 1, none⟩) hl3).trans n1
          have hl4 : w.heap.size < w4.heap.size := ltOfCell n0
          have hs34 := hb4.size
          have HD4 := Lib.hid (HD3.out.pure hb4)
          have hv : OwnFiles w4 v l := hv
          obtain ⟨ab, cb, rfl⟩ := hv.at.shape
          have HV4 := Lib.hid hv
          have HVB := Lib.hid (show ∀ j, (Value.slice ab l.length cb).ownBlock = some j → ¬ (j = p ∨ j = b) from fun j e => by have := hvb j e; omega)
          clear hb4 hv hvb
          go_wp2_with fail
          refine (show Calls Tryz.prog 32 #[.pointer (some ⟨p, 0, none⟩), .string ⟨#[77, 65, 78, 73, 70, 69, 83, 84]⟩] w4 fun e w' => TextPost (dkRead ⟨l, cp, -1, false⟩ fileN) w4 e w' from dk_read w4 p b _ HD4.out ⟨#[77, 65, 78, 73, 70, 69, 83, 84]⟩ (by decide)).mono ?_
          rintro e w5 ⟨⟨old, hold, rfl⟩, hb5⟩
          have B5 := Lib.hid (B4.out.trans (hb5.mono B4.out.size))
          have n0 := (hb5.cell (p := ⟨w.heap.size, 0, none⟩) hl4).trans n0
          have n1 := (hb5.cell (p := ⟨w.heap.size, 1, none⟩) hl4).trans n1
          have hl5 : w.heap.size < w5.heap.size := ltOfCell n0
          have hs45 := hb5.size
          have HD5 := Lib.hid (HD4.out.pure hb5)
          have HV5 := Lib.hid (HV4.out.kept (Fr.pure (S := fun _ => False) hb5) (fun _ _ h => h))
          obtain ⟨fo, hfo⟩ : ∃ fo, fo = (dkRead ⟨l, cp, -1, false⟩ fileN).2 := ⟨_, rfl⟩
          rw [← hfo]
          have HOLD := Lib.hid (And.intro hold hfo)
          clear hb5 hold hfo
          go_wp2_with fail
          go_loop [16] (fun i => ∃ k : Nat, k ≤ l.length ∧ i = .int .i64 k ∧ NoPend l k) (fun i => l.length - (intOf i).toNat)
          case atStart => exact ⟨0, by omega, rfl, fun j _ h => by omega⟩
          case round =>
            obtain ⟨k, hk, rfl, hnp⟩ := hrel
            have HNP := Lib.hid hnp
            clear hnp
            by_cases hlt : k < l.length
            · obtain ⟨q, o, rfl, hql, x, y, z, e1, e2, e3, h1, h2, h3⟩ := HV5.out.at.at k hlt
              clear h2 e2
              by_cases hx : l[k].name = fileN
              · have g1 : (x.toList == [77, 65, 78, 73, 70, 69, 83, 84]) = true := by rw [ByteArray.toList_eq, e1, hx]; rfl
                by_cases hz : l[k].pend = []
                · have g2 : z.toList.isEmpty = true := by rw [ByteArray.toList_eq, e3, hz]; rfl
                  clear e1 e3
                  go_wp2_with fail
                  go_round
                  case rel => exact ⟨k + 1, by omega, by go_num, HNP.out.step hlt (fun _ => hz)⟩
                  case measure => simp [intOf]; omega
                · have g2 : z.toList.isEmpty = false := by rw [ByteArray.toList_eq, e3]; cases e : l[k].pend; exact absurd e hz; rfl
                  clear e1 e3
                  go_wp2_with fail
                  go_ret
                  exact ⟨rfl, B5.out⟩
              · have g1 : (x.toList == [77, 65, 78, 73, 70, 69, 83, 84]) = false := by rw [ByteArray.toList_eq, e1]; show (l[k].name == fileN) = false; simpa using hx
                clear e1 e3
                go_wp2_with fail
                go_round
                case rel => exact ⟨k + 1, by omega, by go_num, HNP.out.step hlt (fun e => absurd e hx)⟩
                case measure => simp [intOf]; omega
            · obtain rfl : k = l.length := by omega
              have HNO := Lib.hid HNP.out.all
              clear HNP hk hlt
              go_upto_region 13 with fail
              obtain ⟨st1, hst1⟩ : ∃ st1 : DkSt, st1 = ⟨l, cp, if 0 ≤ cut then cut else -1, false⟩ := ⟨_, rfl⟩
              have HST1 := Lib.hid hst1
              clear hst1
              go_cut [93] (fun s93 wx => s93 = .bool false ∧ IsDk wx p b st1 ∧ DFr p b w5 wx)
              case first =>
                by_cases hcut : 0 ≤ cut
                · go_wp2_with fail
                  refine (dk_cut w5 p b _ HD5.out cut hc0 hc1).mono ?_
                  rintro e w6 ⟨rfl, hd6, hf6⟩
                  have e1 : dkCut ⟨l, cp, -1, false⟩ cut = (st1, 0) := by unfold dkCut; rw [HST1.out, if_neg (by simp), if_neg (by omega), if_pos hcut]
                  rw [e1] at hd6 ⊢
                  have HX := Lib.hid (And.intro hd6 hf6)
                  clear hd6 hf6 e1
                  go_wp2_with fail
                  go_meet
                  exact ⟨rfl, HX.out⟩
                · have e1 : st1 = ⟨l, cp, -1, false⟩ := by rw [HST1.out, if_neg hcut]
                  have HX := Lib.hid (show IsDk w5 p b st1 from e1 ▸ HD5.out)
                  clear e1
                  go_wp2_with fail
                  go_meet
                  exact ⟨rfl, HX.out, Fr.refl _ _⟩
              case rest =>
                obtain ⟨rfl, hd6, hf6⟩ := hcut
                have HD6 := Lib.hid hd6
                have n0 := hf6.cellAt n0 (by omega)
                have n1 := hf6.cellAt n1 (by omega)
                have B6 := Lib.hid (B5.out.trans (hf6.below (B := w.heap.size) (by omega) (fun k hk => by omega)))
                have HV6 := Lib.hid (HV5.out.kept hf6 HVB.out)
                have hs56 := hf6.size
                clear hf6 hd6
                go_upto_if 93 with fail
                go_cut [] (fun wx => wc = wx)
                case first =>
                  go_wp2_with fail
                  go_meet
                  exact rfl
                case rest =>
                  subst hcut
                  apply_assumption
                  exact wh_mid w p b (by omega) (by omega) st1 l cp cut HST1.out ab cb HVB.out HNO.out old HOLD.out.1 fo HOLD.out.2 g m (by omega) HLL.out HSML.out ak ck ks HK.out HKB.out wc B6.out HD6.out HV6.out am cm HM.out n0 n1
  · go_wp2_with fail
    refine (awake_any _ P1.out).mono ?_
    rintro e w2 ⟨rfl, hb2⟩
    have B2 := Lib.hid (B1.out.trans (hb2.mono B1.out.size))
    clear hb2
    go_wp2
    go_ret
    exact ⟨rfl, B2.out⟩

end Go.Proofs.YtljmekdilhphaaaGreatDoor
