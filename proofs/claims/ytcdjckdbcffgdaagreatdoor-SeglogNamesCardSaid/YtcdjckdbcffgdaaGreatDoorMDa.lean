/- seglog.orphans: its closure; slices.IndexFunc and slices.DeleteFunc by it. -/
import Derived.Test.YtcdjckdbcffgdaaGreatDoorMDc
import Derived.Test.YtcdjckdbcffgdaaGreatDoorMCj
import Derived.Test.YtcdjckdbcffgdaaGreatDoorMCf
import Derived.Test.YtcdjckdbcffgdaaGreatDoorMCe
import Derived.Lib.SliceRun
import Derived.Deep.OwnRows
import Derived.Lib.LazyBuf
namespace Go.Proofs.YtcdjckdbcffgdaaGreatDoor
open Go.RowKit Go.Shelf

open Classical in
/-- What stays: it is no segment's file's name, or one of these. -/
noncomputable def stayB (own : List (List UInt8)) (n : List UInt8) : Bool := !(decide (isSeg n)) || own.contains n

set_option maxRecDepth 100000 in
set_option maxHeartbeats 1000000 in
theorem stay_any (w : World) (h : Libs w) (ob base : Nat) (ov : Value) (own : List (List UInt8)) (hb : w.cell? ⟨ob, 0, none⟩ = some ov) (hown : OwnTexts w base ov own) (hl : own.length ≤ 64) (s : ByteArray) (h1 : 1 ≤ s.size) (h2 : s.size ≤ 1048576) :
    Calls Tryz.prog 122 #[.string s, .pointer (some ⟨ob, 0, none⟩)] w fun e w' => e = .returned (.bool (stayB own s.data.toList)) ∧ Below w.heap.size w w' := by
  have HOW := Lib.hid hown
  have HN := Lib.hid (named_any w h s h1 h2)
  clear hown h
  go_enter Tryz.func122, Tryz.ntmps122
  go_wp2_with fail
  refine HN.out.mono ?_
  rintro e w1 ⟨⟨g, f, b, hbi, rfl⟩, hb1⟩
  have HB1 := Lib.hid hb1
  have hb2 := (hb1.cell (p := ⟨ob, 0, none⟩) (ltOfCell hb)).trans hb
  have HO1 : Hid (OwnTexts w1 base ov own) := Lib.hid ((Fr.pure (S := fun _ => False) hb1).ownsRow HOW.out (fun _ _ e => e))
  clear hb1 hb
  cases b
  · have hns : stayB own s.data.toList = true := by
      unfold stayB
      have : ¬ isSeg s.data.toList := fun h => by have := hbi.2 h; cases this
      simp [this]
    have HNS := Lib.hid hns
    clear hbi hns
    go_wp2
    go_ret
    exact ⟨by rw [HNS.out]; rfl, HB1.out⟩
  · have hns : stayB own s.data.toList = own.contains s.data.toList := by
      unfold stayB
      simp [hbi.1 rfl]
    have HNS := Lib.hid hns
    clear hbi hns
    go_wp2_with fail
    refine (contains_any w1 base ov own HO1.out s (by omega)).mono ?_
    rintro e w2 ⟨rfl, rfl⟩
    go_wp2
    go_ret
    exact ⟨by rw [HNS.out, List.contains_eq_mem]; rfl, HB1.out⟩
end Go.Proofs.YtcdjckdbcffgdaaGreatDoor

/- slices.IndexFunc and slices.DeleteFunc by orphans' closure. -/
namespace Go.Proofs.YtcdjckdbcffgdaaGreatDoor
open Go.RowKit Go.Shelf

/-- What the closure asks, where block nb may be turned. -/
structure StayEnv (w : World) (nb ob base : Nat) (ov : Value) (own : List (List UInt8)) : Prop where
  libs : Libs w
  box : w.cell? ⟨ob, 0, none⟩ = some ov
  row : OwnTexts w base ov own
  few : own.length ≤ 64
  nob : ob ≠ nb
  nov : ov.ownBlock ≠ some nb
  nlib : ¬ LibB nb
theorem StayEnv.kept {w W : World} {nb ob base : Nat} {ov : Value} {own : List (List UInt8)} (h : StayEnv w nb ob base ov own) (hf : Fr (fun k => k = nb) w W) : StayEnv W nb ob base ov own :=
  ⟨h.libs.kept hf (fun k hk hl => h.nlib (hk ▸ hl)), hf.cellAt h.box h.nob, hf.ownsRow h.row (fun g e hg => h.nov (by rw [e, hg])), h.few, h.nob, h.nov, h.nlib⟩
theorem StayEnv.run {w : World} {nb ob base : Nat} {ov : Value} {own : List (List UInt8)} (h : StayEnv w nb ob base ov own) (s : ByteArray) (h1 : 1 ≤ s.size) (h2 : s.size ≤ 1048576) :
    Calls Tryz.prog 122 #[.string s, .pointer (some ⟨ob, 0, none⟩)] w fun e w' => e = .returned (.bool (stayB own s.data.toList)) ∧ Below w.heap.size w w' :=
  stay_any w h.libs ob base ov own h.box h.row h.few s h1 h2

theorem enters_stay : ∀ (args : Array Value) (w : World), (callFunc 122 args).run Tryz.prog w = .ok (.enter 122 args) w := enters_of Tryz.func122 (by kernel_rfl) rfl

set_option maxRecDepth 100000 in
set_option maxHeartbeats 2000000 in
theorem index_stay (w : World) (nb ob base c : Nat) (ov : Value) (own : List (List UInt8)) (hs : StayEnv w nb ob base ov own) (ns : List ByteArray) (hrow : ∀ i (h : i < ns.length), w.cell? ⟨nb, i, none⟩ = some (.string ns[i])) (hsz : ∀ s ∈ ns, 1 ≤ s.size ∧ s.size ≤ 1048576) (hl : ns.length ≤ 64) :
    Calls Tryz.prog 153 #[.slice (some ⟨nb, 0, none⟩) ns.length c, .func (.func 122) #[] #[.pointer (some ⟨ob, 0, none⟩)]] w fun e w' =>
      ∃ k, k ≤ ns.length ∧ (∀ j (h : j < ns.length), j < k → stayB own ns[j].data.toList = false) ∧ (∀ h : k < ns.length, stayB own ns[k].data.toList = true) ∧ e = .returned (.int .i64 (if k < ns.length then (k : Int) else -1)) ∧ Below w.heap.size w w' := by
  have HS := Lib.hid hs
  have HR := Lib.hid hrow
  have HZ := Lib.hid hsz
  have ent := enters_stay
  clear hs hrow hsz
  go_enter Tryz.func153, Tryz.ntmps153
  go_wp2
  go_loopw [8] (fun i wr => ∃ k : Nat, i = .int .i64 k ∧ k ≤ ns.length ∧ Hid (Below w.heap.size w wr) ∧ Hid (∀ j (h : j < ns.length), j < k → stayB own ns[j].data.toList = false)) (fun i _ => ns.length - (intOf i).toNat)
  case atStart => exact ⟨0, rfl, by omega, Lib.hid (Below.refl _ _), Lib.hid (fun j _ h => by omega)⟩
  case round =>
    obtain ⟨k, rfl, hk, HB, HP⟩ := hrel
    by_cases hlt : k < ns.length
    · have hc := (HB.out.cell (p := ⟨nb, k, none⟩) (ltOfCell (HR.out k hlt))).trans (HR.out k hlt)
      have hz := HZ.out ns[k] (List.getElem_mem hlt)
      have hcall := (HS.out.kept (Fr.pure HB.out)).run ns[k] hz.1 hz.2
      have HC := Lib.hid hcall
      clear hcall
      go_wp2_with fail
      refine HC.out.mono ?_
      rintro e w1 ⟨rfl, hb1⟩
      have HB1 := Lib.hid (HB.out.trans (hb1.mono HB.out.size))
      clear hb1
      cases hst : stayB own ns[k].data.toList
      · have HST := Lib.hid hst
        clear hst
        go_wp2
        refine ⟨⟨k + 1, by go_num, by omega, HB1, Lib.hid (fun j h hj => ?_)⟩, ?_⟩
        · by_cases hjk : j = k
          · subst hjk; exact HST.out
          · exact HP.out j h (by omega)
        · simp [intOf]; omega
      · have HST := Lib.hid hst
        clear hst
        go_wp2
        go_ret
        exact ⟨k, hk, HP.out, fun _ => HST.out, by rw [if_pos hlt]; rfl, HB1.out⟩
    · obtain rfl : k = ns.length := by omega
      go_wp2
      go_ret
      exact ⟨ns.length, Nat.le_refl _, HP.out, fun h => absurd h (by omega), by rw [if_neg (by omega)]; rfl, HB.out⟩
end Go.Proofs.YtcdjckdbcffgdaaGreatDoor

/- slices.DeleteFunc by orphans' closure. -/
namespace Go.Proofs.YtcdjckdbcffgdaaGreatDoor
open Go.RowKit Go.Shelf

noncomputable def keptS (own : List (List UInt8)) (l : List ByteArray) : List ByteArray := l.filter fun s => !stayB own s.data.toList
theorem keptS_snoc {own : List (List UInt8)} {ns : List ByteArray} {k : Nat} (h : k < ns.length) : keptS own (ns.take (k + 1)) = keptS own (ns.take k) ++ (if stayB own ns[k].data.toList then [] else [ns[k]]) := by
  unfold keptS
  rw [List.take_succ_eq_append_getElem h, List.filter_append]
  congr 1
  cases hs : stayB own ns[k].data.toList <;> simp [hs]
theorem keptS_le {own : List (List UInt8)} (l : List ByteArray) : (keptS own l).length ≤ l.length := List.length_filter_le _ _
theorem keptS_none {own : List (List UInt8)} {ns : List ByteArray} : ∀ k, k ≤ ns.length → (∀ j (h : j < ns.length), j < k → stayB own ns[j].data.toList = false) → keptS own (ns.take k) = ns.take k := by
  intro k hk h
  unfold keptS
  rw [List.filter_eq_self]
  intro s hs
  obtain ⟨i, hi, rfl⟩ := List.getElem_of_mem hs
  rw [List.length_take] at hi
  rw [List.getElem_take, h i (by omega) (by omega)]; rfl
/-- Where the loop stands: i were kept of the first j. -/
structure DelAt (own : List (List UInt8)) (ns : List ByteArray) (i j : Nat) (f : Nat → Value) : Prop where
  ij : i < j
  jn : j ≤ ns.length
  len : i = (keptS own (ns.take j)).length
  low : ∀ x (h : x < (keptS own (ns.take j)).length), f x = .string (keptS own (ns.take j))[x]
  high : ∀ x (h : x < ns.length), j ≤ x → f x = .string ns[x]
theorem DelAt.skip {own : List (List UInt8)} {ns : List ByteArray} {i j : Nat} {f : Nat → Value} (h : DelAt own ns i j f) (hj : j < ns.length) (hs : stayB own ns[j].data.toList = true) : DelAt own ns i (j + 1) f := by
  have e : keptS own (ns.take (j + 1)) = keptS own (ns.take j) := by rw [keptS_snoc hj, if_pos hs, List.append_nil]
  refine ⟨by have := h.ij; omega, by omega, by rw [e]; exact h.len, fun x hx => ?_, fun x hx h2 => h.high x hx (by omega)⟩
  rw [h.low x (by rw [← e]; exact hx)]
  congr 1
  exact (List.getElem_of_eq e hx).symm
theorem DelAt.keep {own : List (List UInt8)} {ns : List ByteArray} {i j : Nat} {f : Nat → Value} (h : DelAt own ns i j f) (hj : j < ns.length) (hs : stayB own ns[j].data.toList = false) : DelAt own ns (i + 1) (j + 1) (fun x => if x = i then .string ns[j] else f x) := by
  have e : keptS own (ns.take (j + 1)) = keptS own (ns.take j) ++ [ns[j]] := by rw [keptS_snoc hj, if_neg (by rw [hs]; decide)]
  have hi := h.len
  refine ⟨by have := h.ij; omega, by omega, by rw [e, List.length_append, List.length_singleton, ← hi], fun x hx => ?_, fun x hx h2 => ?_⟩
  · rw [List.getElem_of_eq e hx]
    by_cases hc : x = i
    · subst hc
      rw [if_pos rfl, List.getElem_append_right (by omega)]
      simp [hi]
    · have hx2 : x < (keptS own (ns.take j)).length := by rw [e, List.length_append, List.length_singleton] at hx; omega
      rw [if_neg hc, List.getElem_append_left hx2]
      exact h.low x hx2
  · rw [if_neg (by have := h.ij; omega)]
    exact h.high x hx (by omega)

theorem fr_setCells {w : World} {nb : Nat} : ∀ {vs : List Value} {wr : World} (_ : Fr (fun k => k = nb) w wr) (o : Nat) (vs' : List Value), vs' = vs → Fr (fun k => k = nb) w (wr.setCells nb o vs')
  | [], _, h, _, _, e => by subst e; exact h
  | v :: r, wr, h, o, _, e => by subst e; exact fr_setCells (vs := r) (h.setCell ⟨nb, o, none⟩ (fun _ => rfl) v) (o + 1) r rfl

set_option maxRecDepth 100000 in
set_option maxHeartbeats 4000000 in
theorem delete_stay (w : World) (nb ob base c N : Nat) (ov : Value) (own : List (List UInt8)) (hs : StayEnv w nb ob base ov own) (ns : List ByteArray) (f : Nat → Value) (hrow : w.rowIs nb 9 N f) (hf : ∀ i (h : i < ns.length), f i = .string ns[i]) (hN : ns.length ≤ N) (hc : ns.length ≤ c)
    (hsz : ∀ s ∈ ns, 1 ≤ s.size ∧ s.size ≤ 1048576) (hl : ns.length ≤ 64) :
    Calls Tryz.prog 121 #[.slice (some ⟨nb, 0, none⟩) ns.length c, .func (.func 122) #[] #[.pointer (some ⟨ob, 0, none⟩)]] w fun e w' =>
      e = .returned (.slice (some ⟨nb, 0, none⟩) (keptS own ns).length c) ∧ Fr (fun k => k = nb) w w' ∧ ∀ i (h : i < (keptS own ns).length), w'.cell? ⟨nb, i, none⟩ = some (.string (keptS own ns)[i]) := by
  have hcell : ∀ i (h : i < ns.length), w.cell? ⟨nb, i, none⟩ = some (.string ns[i]) := fun i h => by rw [hrow.cell (by omega), hf i h]
  have HI := Lib.hid (index_stay w nb ob base c ov own hs ns hcell hsz hl)
  have HS := Lib.hid hs
  have HR := Lib.hid hrow
  have HZ := Lib.hid hsz
  have HF := Lib.hid hf
  have HCE := Lib.hid hcell
  have ent := enters_stay
  clear hs hrow hsz hf hcell
  go_enter Tryz.func121, Tryz.ntmps121
  go_wp2_with fail
  refine HI.out.mono ?_
  rintro e w1 ⟨k, hk, hlo, hhi, rfl, hb1⟩
  have HB1 := Lib.hid hb1
  by_cases hlt : k < ns.length
  rotate_left
  · rw [if_neg hlt]
    obtain rfl : k = ns.length := by omega
    have hall := keptS_none (own := own) ns.length (Nat.le_refl _) hlo
    rw [List.take_length] at hall
    have HA := Lib.hid hall
    clear hall hlo hhi hb1
    go_wp2
    go_ret
    refine ⟨by rw [HA.out]; rfl, Fr.pure HB1.out, fun i h => ?_⟩
    have hi : i < ns.length := by rw [← HA.out]; exact h
    rw [(HB1.out.cell (p := ⟨nb, i, none⟩) (ltOfCell (HCE.out i hi))).trans (HCE.out i hi)]
    congr 2
    exact (List.getElem_of_eq HA.out h).symm
  · rw [if_pos hlt]
    have h0 : DelAt own ns k (k + 1) f := by
      have e : keptS own (ns.take (k + 1)) = ns.take k := by rw [keptS_snoc hlt, if_pos (hhi hlt), List.append_nil, keptS_none k hk hlo]
      refine ⟨by omega, by omega, by rw [e, List.length_take]; omega, fun x hx => ?_, fun x hx _ => HF.out x hx⟩
      rw [HF.out x (by rw [e, List.length_take] at hx; omega)]
      congr 1
      rw [List.getElem_of_eq e hx, List.getElem_take]
    have H0 := Lib.hid h0
    have hrow1 : w1.rowIs nb 9 N f := HR.out.of_block (hb1.block nb HR.out.lt)
    have HR1 := Lib.hid hrow1
    have hkm : ((k : Int) == -1) = false := by rw [beq_eq_false_iff_ne]; omega
    clear h0 hlo hhi hb1 hrow1
    go_wp2
    go_loopw [5, 6, 7] (fun iv jv _ wr => ∃ (i j : Nat) (f' : Nat → Value), iv = .int .i64 i ∧ jv = .int .i64 j ∧ j ≤ ns.length ∧ i < j ∧ Hid (DelAt own ns i j f') ∧ Hid (wr.rowIs nb 9 N f') ∧ Hid (Fr (fun k => k = nb) w wr)) (fun _ jv _ _ => ns.length - (intOf jv).toNat)
    case atStart => exact ⟨k, k + 1, f, rfl, by go_num, by omega, by omega, H0, HR1, Lib.hid (Fr.pure HB1.out)⟩
    case round =>
      obtain ⟨i, j, f', rfl, rfl, hj, hij, HD, HRW, HFR⟩ := hrel
      by_cases hlt2 : j < ns.length
      · have hcj : wr.cell? ⟨nb, j, none⟩ = some (.string ns[j]) := by rw [HRW.out.cell (by omega), HD.out.high j hlt2 (Nat.le_refl _)]
        have hz := HZ.out ns[j] (List.getElem_mem hlt2)
        have HC := Lib.hid ((HS.out.kept HFR.out).run ns[j] hz.1 hz.2)
        go_wp2_with fail
        refine HC.out.mono ?_
        rintro e w2 ⟨rfl, hb2⟩
        have hrow2 : w2.rowIs nb 9 N f' := HRW.out.of_block (hb2.block nb HRW.out.lt)
        have hci : w2.cell? ⟨nb, i, none⟩ = some (f' i) := hrow2.cell (by omega)
        have zi : w2.frozen? ⟨nb, i, none⟩ = false := hrow2.frozen _
        have HR2 := Lib.hid hrow2
        have HF2 := Lib.hid (HFR.out.then (Fr.pure (S := fun k => k = nb) hb2) (fun k _ h => h))
        clear hb2 hrow2
        cases hst : stayB own ns[j].data.toList
        · have HST := Lib.hid hst
          clear hst
          go_wp2
          refine ⟨⟨i + 1, j + 1, _, by go_num, by go_num, by omega, by omega, Lib.hid (HD.out.keep hlt2 HST.out), Lib.hid (HR2.out.set i _), Lib.hid (HF2.out.setCell ⟨nb, i, none⟩ (fun _ => rfl) _)⟩, ?_⟩
          simp [intOf]; omega
        · have HST := Lib.hid hst
          clear hst
          go_wp2
          refine ⟨⟨i, j + 1, f', rfl, by go_num, by omega, by omega, Lib.hid (HD.out.skip hlt2 HST.out), HR2, HF2⟩, ?_⟩
          simp [intOf]; omega
      · obtain rfl : j = ns.length := by omega
        have hcl : ∀ ty, (Builtin.clear_ #[24] ty #[.slice (some ⟨nb, i, none⟩) (ns.length - i) (c - i)]).run Tryz.prog wr = .ok (.tuple #[]) (wr.setCells nb i (List.replicate (ns.length - i) (.string ⟨#[]⟩))) :=
          fun ty => Lib.run_clear_slice wr _ 9 ty _ Tryz.underlying24 (fun w => by rfl) rfl rfl nb i _ _ (by omega) (fun t ht => by rw [HRW.out.cell (by omega)]; rfl) (fun t ht => HRW.out.frozen _)
        go_wp2
        go_ret
        have hD := HD.out
        have hlen := hD.len
        rw [List.take_length] at hlen
        have hlow := hD.low
        have hrw := rowIs_setCells (List.replicate (ns.length - i) (.string ⟨#[]⟩)) i wr f' HRW.out
        refine ⟨by rw [← hlen]; rfl, fr_setCells HFR.out _ _ rfl, fun x hx => ?_⟩
        rw [hrw.cell (by have := hij; omega), if_neg (by omega)]
        rw [hlow x (by rw [List.take_length]; exact hx)]
        congr 2
        exact List.getElem_of_eq (by rw [List.take_length]) _
end Go.Proofs.YtcdjckdbcffgdaaGreatDoor
