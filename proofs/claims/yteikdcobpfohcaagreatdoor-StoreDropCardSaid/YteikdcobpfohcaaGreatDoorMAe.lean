/- The walk of Load. -/
import Derived.Test.YteikdcobpfohcaaGreatDoorMAd
import Derived.Test.YteikdcobpfohcaaGreatDoorShelf
import Derived.Shelf.SlIter.Nil
import Derived.Shelf.SortM.Plain
import Derived.Shelf.SortM.SortNone
namespace Go.Proofs.YteikdcobpfohcaaGreatDoor
open Go.RowKit Go.Maps Go.Sort

def LoadPost (cap : Int) (l : Fs) (w : World) (e : Ending) (w' : World) : Prop :=
  Below w.heap.size w w' ∧ match dkLoad cap l with
    | (some st, c) => ∃ p b, w.heap.size ≤ p ∧ w.heap.size ≤ b ∧ e = .returned (.tuple #[.pointer (some ⟨p, 0, none⟩), .int .i64 c]) ∧ IsDk w' p b st
    | (none, c) => e = .returned (.tuple #[.pointer none, .int .i64 c])

theorem alloc_at_top {n : Nat} (w : World) (o : Obj) (h : n = w.heap.size) : (w.alloc o).heap[n]? = some o := by subst h; exact heap_alloc_new w o

set_option maxRecDepth 100000 in
set_option maxHeartbeats 2500000 in
theorem dk_load (w : World) (cap : Int) (sv : Value) (l : Fs) (hl : FilesAt w sv l) (hlen : l.length ≤ 4398046511104) (hsz : ∀ f ∈ l, f.name.length ≤ 140737488355328 ∧ f.firm.length ≤ 140737488355328 ∧ f.pend.length ≤ 140737488355328) (hc1 : cap ≤ 9223372036854775807) :
    Calls Tryz.prog 16 #[.int .i64 cap, sv] w fun e w' => LoadPost cap l w e w' := by
  have hmm := @run_makeMap Tryz.prog
  obtain ⟨a, c, rfl⟩ := hl.shape
  have HS := Lib.hid hl
  clear hl
  by_cases hc0 : cap < 0
  · go_enter Tryz.func16, Tryz.ntmps16
    go_wp2
    refine bodyPost_ret (v := .tuple #[.pointer none, .int .i64 1]) (by simp [results, Tryz.results16, go_sem]) rfl ⟨Below.refl _ _, ?_⟩
    unfold dkLoad; rw [if_pos hc0]
  · go_enter Tryz.func16, Tryz.ntmps16
    go_wp2
    go_loopw [7, 18] (fun x i wr => ∃ (k : Nat) (lb : ByteArray), k ≤ l.length ∧ i = .int .i64 k ∧ x = .string lb ∧ LdInv l k lb.data.toList ∧ wr.heap[w.heap.size + 1]? = some (.cells ((⟨l.take k, cap, -1, false⟩ : DkSt).cells w.heap.size) 90 (0, 0)) ∧ wr.ownsMap Tryz.prog 9 fileElem w.heap.size k (fsD (l.take k)) ∧ Below w.heap.size w wr) (fun _ i _ => l.length - (intOf i).toNat)
    case atStart =>
      exact ⟨0, ⟨#[]⟩, by omega, rfl, rfl, LdInv.start l, alloc_at_top _ _ (by simp), ownsMap_at rfl _, ((Below.refl _ _).alloc (Nat.le_refl _) _).alloc (by simp) _⟩
    case round =>
      obtain ⟨k, lb, hk, rfl, rfl, hinv, hcell, hown, hb⟩ := hrel
      have hwr : w.heap.size + 1 < wr.heap.size := lt_of_block hcell
      by_cases hlt : k < l.length
      · obtain ⟨b0, o, rfl, hbl, x, y, z, e1, e2, e3, h1, h2, h3⟩ := HS.out.at k hlt
        have hg1 := (hb.cell (p := ⟨b0, o + k * 3, none⟩) hbl).trans h1
        have hg2 := (hb.cell (p := ⟨b0, o + k * 3 + 1, none⟩) hbl).trans h2
        have hg3 := (hb.cell (p := ⟨b0, o + k * 3 + 2, none⟩) hbl).trans h3
        clear h1 h2 h3
        have E := Lib.hid (show x.data.toList = l[k].name ∧ y.data.toList = l[k].firm ∧ z.data.toList = l[k].pend from ⟨e1, e2, e3⟩)
        have hszs := hsz l[k] (List.getElem_mem hlt)
        rw [← e1, ← e2, ← e3, size_toList, size_toList, size_toList] at hszs
        obtain ⟨hx1, hx2, hx3⟩ := hszs
        clear e1 e2 e3
        go_wp2_with fail
        refine (mayName_any x _ (by omega)).mono ?_
        rintro e w3 ⟨rfl, hb3⟩
        have HB3 := Lib.hid (((Below.refl _ wr).alloc (Nat.le_refl _) (.cells #[.string x, .string y, .string z] 59)).trans (hb3.mono (by simp)))
        have hs3 := hb3.size
        simp at hs3
        have n0 : w3.cell? ⟨wr.heap.size, 0, none⟩ = some (.string x) := by rw [hb3.cell (by simp), World.cell?_alloc_at _ _ _ _ rfl]; rfl
        have n1 : w3.cell? ⟨wr.heap.size, 1, none⟩ = some (.string y) := by rw [hb3.cell (by simp), World.cell?_alloc_at _ _ _ _ rfl]; rfl
        have n2 : w3.cell? ⟨wr.heap.size, 2, none⟩ = some (.string z) := by rw [hb3.cell (by simp), World.cell?_alloc_at _ _ _ _ rfl]; rfl
        have hcell3 := (HB3.out.block _ hwr).trans hcell
        have hown3 := ownsMap_fr hown (Fr.pure (S := fun _ => False) HB3.out) (fun h => h)
        clear hb3 hcell hown
        cases hM : mayName x.data.toList
        · have hcc := Lib.hid (hinv.bad hlt (by rw [← E.out.1, hM]; simp))
          clear hinv
          go_wp2
          refine bodyPost_ret (v := .tuple #[.pointer none, .int .i64 4]) (by simp [results, Tryz.results16, go_sem]) rfl ⟨hb.trans (HB3.out.mono hb.size), ?_⟩
          unfold dkLoad; rw [if_neg (by omega), hcc.out]; rfl
        · cases hB : bytesBefore lb.data.toList x.data.toList
          · have hleq : (Op.bytesLess x.toList lb.toList || x.toList == lb.toList) = true := by rw [ByteArray.toList_eq, ByteArray.toList_eq, leq_before, hB]; rfl
            have hcc := Lib.hid (hinv.bad hlt (by rw [← E.out.1, hM, hB]; simp))
            clear hinv
            go_wp2
            refine bodyPost_ret (v := .tuple #[.pointer none, .int .i64 4]) (by simp [results, Tryz.results16, go_sem]) rfl ⟨hb.trans (HB3.out.mono hb.size), ?_⟩
            unfold dkLoad; rw [if_neg (by omega), hcc.out]; rfl
          · have hleq : (Op.bytesLess x.toList lb.toList || x.toList == lb.toList) = false := by rw [ByteArray.toList_eq, ByteArray.toList_eq, leq_before, hB]; rfl
            have hl1 : Op.bytesLess x.toList lb.toList = false := (Bool.or_eq_false_iff.1 hleq).1
            have hl2 : (x.toList == lb.toList) = false := (Bool.or_eq_false_iff.1 hleq).2
            by_cases hS : 1048576 < y.size + z.size
            · have hS1 : (1048576 : Int) < (y.size : Int) + (z.size : Int) := by omega
              have hcc := Lib.hid (hinv.bad hlt (by rw [← E.out.2.1, ← E.out.2.2, size_toList, size_toList, decide_eq_false (by omega : ¬ y.size + z.size ≤ 1048576)]; simp))
              clear hinv
              go_wp2
              refine bodyPost_ret (v := .tuple #[.pointer none, .int .i64 4]) (by simp [results, Tryz.results16, go_sem]) rfl ⟨hb.trans (HB3.out.mono hb.size), ?_⟩
              unfold dkLoad; rw [if_neg (by omega), hcc.out]; rfl
            · have hS1 : ¬ (1048576 : Int) < (y.size : Int) + (z.size : Int) := by omega
              by_cases hC : 64 < l.length
              · have hcc := Lib.hid (hinv.bad hlt (by rw [decide_eq_false (by omega : ¬ l.length ≤ 64)]; simp))
                clear hinv
                go_wp2
                refine bodyPost_ret (v := .tuple #[.pointer none, .int .i64 4]) (by simp [results, Tryz.results16, go_sem]) rfl ⟨hb.trans (HB3.out.mono hb.size), ?_⟩
                unfold dkLoad; rw [if_neg (by omega), hcc.out]; rfl
              · have hsx := E.out
                have HN := Lib.hid (hinv.next hlt (by rw [← hsx.1]; exact hM) (by rw [← hsx.1]; exact hB) (by rw [← hsx.2.1, ← hsx.2.2, size_toList, size_toList]; omega) (by omega))
                have HP := Lib.hid (hinv.put hlt (by rw [← hsx.1]; exact hB))
                have hln := mayName_len hM
                rw [size_toList] at hln
                obtain ⟨w4, hrun, hown4, hturn4⟩ := (show w3.drew.ownsMap Tryz.prog 9 fileElem w.heap.size k (fsD (l.take k)) from hown3).store (t := 88) (e := 93) Tryz.strKey Tryz.underlying88 (by unfold maxLen; omega) (key := .string x) (val := .agg #[.string y, .string z]) (WideMaps.keyOf_string_mk Tryz.underlying9 (by unfold maxLen; omega)) (fileElem_mk _ _)
                have HT := Lib.hid (turned_fr hturn4)
                have c0 : w3.cell? ⟨w.heap.size + 1, 0, none⟩ = some (.map (some w.heap.size)) := by rw [cell_of_row w3 _ _ _ _ _ hcell3]; rfl
                have HO4 := Lib.hid (show w4.ownsMap Tryz.prog 9 fileElem w.heap.size (k + 1) (fsD (l.take (k + 1))) from by
                  rw [← HP.out, ← put_fs]
                  show w4.ownsMap Tryz.prog 9 fileElem w.heap.size (k + 1) ((fsD (l.take k)).put (.string l[k].name) (.agg [.lit (.string l[k].firm), .lit (.string l[k].pend)]))
                  rw [← hsx.1, ← hsx.2.1, ← hsx.2.2]; exact hown4)
                have HC4 := Lib.hid (HT.out.heapAt (show w3.drew.heap[w.heap.size + 1]? = _ from hcell3) (by omega))
                have HB4 := Lib.hid (hb.trans ((HB3.out.mono hb.size).drew.trans (HT.out.below (B := w.heap.size) (by show w.heap.size ≤ w3.heap.size; omega) (fun k hk => by omega)) : RowKit.Below w.heap.size wr w4))
                clear hown4 hturn4 hown3 hcell3 hinv hsx hB hM hleq
                go_wp2
                go_region
                go_wp2
                go_roundw
                case rel => exact ⟨k + 1, x, by omega, by go_num, rfl, by rw [E.out.1]; exact HN.out, HC4.out, HO4.out, HB4.out⟩
                case measure => simp [intOf]; omega
      · obtain rfl : k = l.length := by omega
        obtain ⟨hok, hfs⟩ := hinv.ok rfl
        rw [List.take_length] at hcell hown
        have HOK := Lib.hid hok
        have HFS := Lib.hid hfs
        have hul := used_le hfs
        have HC := Lib.hid hcell
        have HO := Lib.hid hown
        clear hok hfs hcell hown hinv
        go_wp2_with fail
        refine (dk_used0 wr (w.heap.size + 1) w.heap.size ⟨l, cap, -1, false⟩ HC.out HO.out HFS.out).mono ?_
        rintro e w3 ⟨rfl, hb3⟩
        by_cases hfit : cap < (used l : Int)
        · go_wp2
          refine bodyPost_ret (v := .tuple #[.pointer none, .int .i64 44]) (by simp [results, Tryz.results16, go_sem]) rfl ⟨hb.trans (hb3.mono hb.size), ?_⟩
          rw [show dkLoad cap l = (none, 44) from by unfold dkLoad; rw [if_neg (by omega), HOK.out, if_neg (by simp), if_pos hfit]]
        · go_wp2
          refine bodyPost_ret (v := .tuple #[.pointer (some ⟨w.heap.size + 1, 0, none⟩), .int .i64 0]) (by simp [results, Tryz.results16, go_sem]) rfl ⟨hb.trans (hb3.mono hb.size), ?_⟩
          rw [show dkLoad cap l = (some ⟨l, cap, -1, false⟩, 0) from by unfold dkLoad; rw [if_neg (by omega), HOK.out, if_neg (by simp), if_neg (by omega)]]
          exact ⟨_, w.heap.size, by omega, by omega, rfl, (⟨HC.out, HO.out, ⟨HFS.out, by show 0 ≤ cap; omega, hc1, by show (used l : Int) ≤ cap; omega, by show (-1 : Int) ≤ -1; omega, by show (-1 : Int) ≤ _; omega⟩⟩ : IsDk wr _ _ _).pure hb3⟩

end Go.Proofs.YteikdcobpfohcaaGreatDoor

/- slices.Sorted(maps.Keys(m)) at this seat's dump: what the kit's program lay-iter.mjs writes, with the seat's numbers by name. -/
namespace Go.Proofs
open Go.RowKit Go.Maps Go.Sort Go.Shelf

/-- slices.Sort's two contracts at this dump, at the fence that asks nothing. -/
theorem Tryz.sortsX (m : Nat) : AnyZ.SortsIn Tryz.prog Tryz.sortedX_ren Fence.wide m :=
  ⟨fun blk off cap ss W hH hblk hsz => callsIn_wide.2 (AnyM.slices_Sort_string Tryz.laysSlM6_f122 blk off cap ss W hH hblk hsz),
   fun p cap W => callsIn_wide.2 (AnyM.slices_Sort_string_none Tryz.laysSlM6_f122 p cap W)⟩

/-- **maps.Keys[map[string]souk/disk.file,string,souk/disk.file], at whatever map, the nil one too:** a function value over ONE NEW BLOCK, which holds the map. -/
theorem Tryz.maps_Keys_X (mb : Option Nat) (W : World) : CallsIn Fence.wide 5 Tryz.prog 83 #[.map mb] W fun e w' => e = .returned (.func (.func 123) #[] #[.pointer (some ⟨W.heap.size, 0, none⟩)]) ∧ w' = W.alloc (.cells #[.map mb] 88) :=
  AnyZ.keys_in Tryz.keysX Fence.wide 5 trivial rfl mb W

set_option maxHeartbeats 1000000 in
/-- **slices.Sorted[string] AT WHAT maps.Keys[map[string]souk/disk.file,string,souk/disk.file] HANDED BACK FOR A MAP THAT IS NOT nil** ('w': the world AHEAD of maps.Keys' call): A NEW SLICE THAT HOLDS THE MAP's KEYS, SORTED; nil just where it has none; nothing that lay before has turned. -/
theorem Tryz.slices_Sorted_keys_X {H : Type} (b nn : Nat) (D0 : DataW H) (R : Value → Option (DataW H × List MemPlace)) (w : World) (hown : w.ownsMap Tryz.prog 9 R b nn D0) (hmax : Maps.size D0 ≤ maxLen) (hbytes : Maps.size D0 * 16 ≤ 140737488355328) :
    CallsIn Fence.wide 5 Tryz.prog 82 #[.func (.func 123) #[] #[.pointer (some ⟨w.heap.size, 0, none⟩)]] (w.alloc (.cells #[.map (some b)] 88)) fun e w' => ∃ (v : Value) (ss : List (List UInt8)), e = .returned v ∧ ss.Perm (strKeys D0) ∧
      w'.ownsRow (w.alloc (.cells #[.map (some b)] 88)).heap.size 9 1 v ss.length ((ss.mergeSort (fun x y => decide (x ≤ y))).map encStr) ∧ (v = .slice none 0 0 ↔ ss = []) ∧ Below (w.alloc (.cells #[.map (some b)] 88)).heap.size (w.alloc (.cells #[.map (some b)] 88)) w' := by
  have hbl := hown.lt
  have hseq : SeqGives Fence.wide 2 Tryz.prog 123 #[.pointer (some ⟨w.heap.size, 0, none⟩)] encStr (fun ss => ss.Perm (strKeys D0)) (Maps.size D0) (w.alloc (.cells #[.map (some b)] 88)) :=
    AnyZ.keys_gives (ρ := Tryz.keysX_ren) { Tryz.keysX with } Fence.wide _ trivial rfl (by omega) w.heap.size b nn D0 _ (by simp) (by simp) (by
      obtain ⟨es, clock, hb, Ft, hs, hD⟩ := hown
      exact ⟨es, clock, (Below.heap_alloc _ _ b hbl).trans hb, Ft, hs, hD⟩)
  exact AnyZ.sorted_in Tryz.sortedX Fence.wide 5 trivial trivial trivial trivial rfl (by omega) (Tryz.sortsX _) (enters_of Tryz.func122 (by kernel_rfl) rfl) 123 #[.pointer (some ⟨w.heap.size, 0, none⟩)] trivial (enters_of Tryz.func123 (by kernel_rfl) rfl) _ _ hmax hbytes _ hseq

set_option maxHeartbeats 1000000 in
/-- **.. AND FOR THE nil MAP: nil.** -/
theorem Tryz.slices_Sorted_keys_nil_X (w : World) :
    CallsIn Fence.wide 5 Tryz.prog 82 #[.func (.func 123) #[] #[.pointer (some ⟨w.heap.size, 0, none⟩)]] (w.alloc (.cells #[.map none] 88)) fun e w' => ∃ (v : Value) (ss : List (List UInt8)), e = .returned v ∧ ss = [] ∧
      w'.ownsRow (w.alloc (.cells #[.map none] 88)).heap.size 9 1 v ss.length ((ss.mergeSort (fun x y => decide (x ≤ y))).map encStr) ∧ (v = .slice none 0 0 ↔ ss = []) ∧ Below (w.alloc (.cells #[.map none] 88)).heap.size (w.alloc (.cells #[.map none] 88)) w' := by
  have hseq : SeqGives Fence.wide 2 Tryz.prog 123 #[.pointer (some ⟨w.heap.size, 0, none⟩)] encStr (fun ss : List (List UInt8) => ss = []) 0 (w.alloc (.cells #[.map none] 88)) :=
    AnyZ.keys_gives_nil (ρ := Tryz.keysX_ren) { Tryz.keysX with } Fence.wide _ trivial rfl w.heap.size _ (by simp) (by simp)
  exact AnyZ.sorted_in Tryz.sortedX Fence.wide 5 trivial trivial trivial trivial rfl (by omega) (Tryz.sortsX _) (enters_of Tryz.func122 (by kernel_rfl) rfl) 123 #[.pointer (some ⟨w.heap.size, 0, none⟩)] trivial (enters_of Tryz.func123 (by kernel_rfl) rfl) _ 0 (Nat.zero_le _) (by omega) _ hseq


end Go.Proofs

/- The names, rising: the walk of names. -/
namespace Go.Proofs.YteikdcobpfohcaaGreatDoor
open Go.RowKit Go.Maps Go.Sort Go.Shelf

theorem strKeys_fs (fs : Fs) : strKeys (fsD fs) = fs.map (·.name) := by
  show (fs.map entD).map (fun p => strOf p.1) = _
  rw [List.map_map]; rfl
theorem sorted_names {fs : Fs} (hs : fs.Pairwise (fun f g => bytesBefore f.name g.name = true)) {ss : List (List UInt8)} (hp : ss.Perm (fs.map (·.name))) : ss.mergeSort (fun x y => decide (x ≤ y)) = fs.map (·.name) := by
  refine List.Perm.eq_of_pairwise (le := fun x y => x ≤ y) (fun a b _ _ h1 h2 => List.le_antisymm h1 h2) ?_ ?_ ((List.mergeSort_perm _ _).trans hp)
  · have := List.pairwise_mergeSort (le := fun (x y : List UInt8) => decide (x ≤ y)) (fun a b c h1 h2 => by simp only [decide_eq_true_eq] at *; exact List.le_trans h1 h2) (fun a b => by simpa using List.le_total a b) ss
    exact this.imp (fun h => by simpa using h)
  · rw [List.pairwise_map]
    refine hs.imp fun {a b} h => ?_
    have h1 : Op.bytesLess a.name b.name = true := by rw [bytesLess_before]; exact h
    rw [bytesLess_eq] at h1
    exact List.le_of_lt (of_decide_eq_true h1)

set_option maxRecDepth 100000 in
set_option maxHeartbeats 1000000 in
theorem dk_names (w : World) (p b : Nat) (st : DkSt) (h : IsDk w p b st) :
    Calls Tryz.prog 41 #[.pointer (some ⟨p, 0, none⟩)] w fun e w' => ∃ v, e = .returned v ∧ w'.ownsRow w.heap.size 9 1 v st.fs.length ((st.fs.map (·.name)).map encStr) ∧ Below w.heap.size w w' := by
  have H := Lib.hid h
  obtain ⟨c0, c1, c2, c3⟩ := h.cs
  clear h
  go_enter Tryz.func41, Tryz.ntmps41
  go_wp2_with fail
  refine (callsIn_wide.1 (Tryz.maps_Keys_X (some b) w)).mono ?_
  rintro e w1 ⟨rfl, rfl⟩
  go_wp2_with fail
  have hf := H.out.ok.fs.few
  have hb := (Below.refl w.heap.size w).alloc (Nat.le_refl _) (.cells #[.map (some b)] 88)
  refine (callsIn_wide.1 (Tryz.slices_Sorted_keys_X b st.fs.length (fsD st.fs) fileElem w H.out.own (by rw [size_fs]; unfold maxLen; omega) (by rw [size_fs]; omega))).mono ?_
  rintro e w2 ⟨v, ss, rfl, hp, hown, _, hb2⟩
  have HO := Lib.hid hown
  have HP := Lib.hid hp
  have HB := Lib.hid (hb.trans (hb2.mono (by simp)))
  clear hown hp hb hb2
  go_wp2
  go_ret
  rw [strKeys_fs] at HP
  have hl := HP.out.length_eq
  have ho := HO.out
  rw [sorted_names H.out.ok.fs.sorted HP.out, hl, List.length_map] at ho
  exact ⟨v, rfl, ownsRow_base ho (fun g hg => by
    obtain ⟨_, hx | ⟨g', cap, cur, e1, h2, _⟩⟩ := ho
    · rw [hx.1] at hg; cases hg
    · rw [e1] at hg; cases hg; simp at h2; show w.heap.size ≤ g'; omega), HB.out⟩

end Go.Proofs.YteikdcobpfohcaaGreatDoor
