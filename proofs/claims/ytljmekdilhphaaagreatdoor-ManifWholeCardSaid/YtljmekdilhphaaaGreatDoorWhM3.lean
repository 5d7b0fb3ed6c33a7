/- ManifWhole: the power goes, and comes back. -/
import Derived.Test.YtljmekdilhphaaaGreatDoorWhM4
namespace Go.Proofs.YtljmekdilhphaaaGreatDoor
open Go.RowKit Go.Maps Go.Sort

set_option maxRecDepth 100000 in
set_option maxHeartbeats 8000000 in
theorem wh_mid3 (w : World) (p b : Nat) (hpg : w.heap.size < p) (hbg : w.heap.size < b) (st1 : DkSt) (l : Fs) (cp cut : Int) (HST1 : st1 = ⟨l, cp, if 0 ≤ cut then cut else -1, false⟩)
    (ab : Option Addr) (cb : Nat) (hvb : ∀ j, (Value.slice ab l.length cb).ownBlock = some j → ¬ (j = p ∨ j = b)) (HNO : ∀ f, fsGet l fileN = some f → f.pend = []) (old : ByteArray) (qHOLD : old.data.toList = (dkRead ⟨l, cp, -1, false⟩ fileN).1) (fo : Int) (qHFO : fo = (dkRead ⟨l, cp, -1, false⟩ fileN).2)
    (g : Int) (m : Segs) (hll : l.length ≤ 64) (hsm : ∀ f ∈ l, f.firm.length + f.pend.length ≤ 1048576) (ak : Option Addr) (ck : Nat) (ks : List Int) (qHK : IntsAt w (.slice ak ks.length ck) ks) (hkb : ∀ j, (Value.slice ak ks.length ck).ownBlock = some j → j < w.heap.size)
    (wc : World) (qBC : Below w.heap.size w wc) (st2 : DkSt) (qHDC : IsDk wc p b st2) (qHVC : OwnFiles wc (.slice ab l.length cb) l) (want : ByteArray) (qHW : want.data.toList = wantL g m) (c : Int) (HSC : st2 = (dkSwap st1 g m).1 ∧ c = (dkSwap st1 g m).2) {u0 u1 u2 u3 u5 u6 u7 u8 u9 u10 u12 u16 u17 u19 u21 u22 u23 u24 u25 u26 u27 u28 u29 u30 u31 u32 u33 u34 u35 u36 u37 u38 u39 u40 u41 u42 u43 u44 u45 u46 u47 u48 u49 u50 u51 u52 u53 u54 u55 u56 u57 u58 u59 u60 u61 u62 u63 u64 u65 u66 u67 u68 u69 u70 u71 u72 u73 u74 u75 u76 u77 u78 u79 u80 u81 u82 u83 u84 u85 u86 u87 u88 u89 u90 u91 u92 u93 u94 u95 u96 u97 u98 u99 u100 u101 u102 u103 u104 u105 u106 u107 u108 u109 u110 u111 u112 u113 u114 u115 u116 u117 u118 u119 u120 u121 u122 u123 u124 u125 u126 u127 u128 u129 u130 u131 u132 u133 u134 u135 u136 u137 u138 u139 u140 u141 u142 u143 u144 u145 u146 u147 u148 u149 u150 u151 u152 u153 u154 u155 u156 u157 u158 u159 u160 u161 u162 u163 u164 u165 u166 u167 u168 u169 u170 u171 u172 u173 u174 u175 u176 u177 u178 u179 u180 u181 u182 u183 u184 u185 u186 u187 u188 u189 u190 u191 u192 u193 u194 u195 u196 u197 u198 u199 u200 u201 u202 u203 u204 u205 u206 u207 u208 u209 u210 u211 u212 u213 u214 u215 u216 u217 u218 u219 u220 u221 u222 u223 u224 u225 u226 u227 u228 u229 u230 u231 u232 u233 u234 u235 u236 u237 u238 u239 u240 u241 u242 u243 u244 u245 u246 u247 u248 u249 u250 u251 u252 u253 u254 u255 u256 u257 u258 u259 u260 u261 u262 u263 u264 u265 u266 u267 u268 u269 u270 u271 u272 u273 u274 u275 u276 u277 u278 u279 u280 u281 : Value} :
    Code.wp Tryz.prog (dropS 12 (Tryz.f6.body.getD .skip)) (bodyPost Tryz.prog Tryz.f6 fun e w' => e = .returned (.bool true) ∧ Below w.heap.size w w') { tmps := (List.toArray (u0 :: u1 :: u2 :: u3 :: .slice ak ks.length ck :: u5 :: u6 :: u7 :: u8 :: u9 :: u10 :: .pointer (some ⟨p, 0, none⟩) :: u12 :: .slice ab l.length cb :: .string old :: .int .i64 fo :: u16 :: u17 :: .string want :: u19 :: .int .i64 c :: u21 :: u22 :: u23 :: u24 :: u25 :: u26 :: u27 :: u28 :: u29 :: u30 :: u31 :: u32 :: u33 :: u34 :: u35 :: u36 :: u37 :: u38 :: u39 :: u40 :: u41 :: u42 :: u43 :: u44 :: u45 :: u46 :: u47 :: u48 :: u49 :: u50 :: u51 :: u52 :: u53 :: u54 :: u55 :: u56 :: u57 :: u58 :: u59 :: u60 :: u61 :: u62 :: u63 :: u64 :: u65 :: u66 :: u67 :: u68 :: u69 :: u70 :: u71 :: u72 :: u73 :: u74 :: u75 :: u76 :: u77 :: u78 :: u79 :: u80 :: u81 :: u82 :: u83 :: u84 :: u85 :: u86 :: u87 :: u88 :: u89 :: u90 :: u91 :: u92 :: u93 :: u94 :: u95 :: u96 :: u97 :: u98 :: u99 :: u100 :: u101 :: u102 :: u103 :: u104 :: u105 :: u106 :: u107 :: u108 :: u109 :: u110 :: u111 :: u112 :: u113 :: u114 :: u115 :: u116 :: u117 :: u118 :: u119 :: u120 :: u121 :: u122 :: u123 :: u124 :: u125 :: u126 :: u127 :: u128 :: u129 :: u130 :: u131 :: u132 :: u133 :: u134 :: u135 :: u136 :: u137 :: u138 :: u139 :: u140 :: u141 :: u142 :: u143 :: u144 :: u145 :: u146 :: u147 :: u148 :: u149 :: u150 :: u151 :: u152 :: u153 :: u154 :: u155 :: u156 :: u157 :: u158 :: u159 :: u160 :: u161 :: u162 :: u163 :: u164 :: u165 :: u166 :: u167 :: u168 :: u169 :: u170 :: u171 :: u172 :: u173 :: u174 :: u175 :: u176 :: u177 :: u178 :: u179 :: u180 :: u181 :: u182 :: u183 :: u184 :: u185 :: u186 :: u187 :: u188 :: u189 :: u190 :: u191 :: u192 :: u193 :: u194 :: u195 :: u196 :: u197 :: u198 :: u199 :: u200 :: u201 :: u202 :: u203 :: u204 :: u205 :: u206 :: u207 :: u208 :: u209 :: u210 :: u211 :: u212 :: u213 :: u214 :: u215 :: u216 :: u217 :: u218 :: u219 :: u220 :: u221 :: u222 :: u223 :: u224 :: u225 :: u226 :: u227 :: u228 :: u229 :: u230 :: u231 :: u232 :: u233 :: u234 :: u235 :: u236 :: u237 :: u238 :: u239 :: u240 :: u241 :: u242 :: u243 :: u244 :: u245 :: u246 :: u247 :: u248 :: u249 :: u250 :: u251 :: u252 :: u253 :: u254 :: u255 :: u256 :: u257 :: u258 :: u259 :: u260 :: u261 :: u262 :: u263 :: u264 :: u265 :: u266 :: u267 :: u268 :: u269 :: u270 :: u271 :: u272 :: u273 :: u274 :: u275 :: u276 :: u277 :: u278 :: u279 :: u280 :: u281 :: [])), defers := [] } wc := by
  have hend := wh_end ⟨l, cp, -1, false⟩ st1 l rfl (by rw [HST1]) rfl (by rw [HST1]) g m ks HNO
  rw [← HSC.1, ← HSC.2] at hend
  obtain ⟨k45, hk45⟩ : ∃ k45 : Bool, k45 = (c == 45) := ⟨_, rfl⟩
  have hup := hend.up
  rw [← hk45] at hup
  have HUP := Lib.hid hup
  have HE := Lib.hid hend
  have HK45 := Lib.hid hk45
  have HK := Lib.hid (qHK.pure qBC)
  clear qHK
  have hpc := qHDC.lt
  have hbc := qHDC.own.lt
  have hsc := qBC.size
  have BC := Lib.hid qBC
  clear qBC
  have HDC := Lib.hid qHDC
  clear qHDC
  have HVC := Lib.hid qHVC
  clear qHVC
  have HOLD := Lib.hid qHOLD
  clear qHOLD
  have HFO := Lib.hid qHFO
  clear qHFO
  have HW := Lib.hid qHW
  clear qHW
  have HKB := Lib.hid hkb
  have HVB := Lib.hid hvb
  clear hend hup hk45 HST1 HNO HSC hkb hvb
  obtain ⟨st3, hst3⟩ : ∃ st3, st3 = dkCrash st2 ks := ⟨_, rfl⟩
  have HST3 := Lib.hid hst3
  clear hst3
  conv => arg 2; whnf
  go_upto_region 23 with fail
  go_cut [142] (fun s wx => s = .bool false ∧ IsDk wx p b st3 ∧ DFr p b wc wx)
  case first =>
    have HCR := Lib.hid (dk_crash wc p b st2 HDC.out (.slice ak ks.length ck) ks HK.out (fun j e => by have := HKB.out j e; omega))
    go_wp2_with fail
    refine (dk_up wc p b st2 HDC.out).mono ?_
    rintro e w1 ⟨rfl, rfl⟩
    rw [HUP.out]
    cases k45
    · have hc : (c == 45) = false := HK45.out.symm
      go_wp2_with fail
      refine HCR.out.mono ?_
      rintro e w2 ⟨rfl, hd, hf⟩
      rw [← HST3.out] at hd
      have HX := Lib.hid (And.intro hd hf)
      clear hd hf
      go_wp2_with fail
      go_meet
      exact ⟨rfl, HX.out⟩
    · have hc : (c == 45) = true := HK45.out.symm
      go_wp2_with fail
      refine HCR.out.mono ?_
      rintro e w2 ⟨rfl, hd, hf⟩
      rw [← HST3.out] at hd
      have HX := Lib.hid (And.intro hd hf)
      clear hd hf
      go_wp2_with fail
      go_meet
      exact ⟨rfl, HX.out⟩
  case rest =>
    obtain ⟨rfl, hd1, hf1⟩ := hcut
    have HD1 := Lib.hid hd1
    have HV1 := Lib.hid (HVC.out.kept hf1 HVB.out)
    have B1 := Lib.hid (BC.out.trans (hf1.below (B := w.heap.size) (by omega) (fun k hk => by omega)))
    have hs1 := hf1.size
    clear hd1 hf1
    have hend := HE.out
    rw [← HST3.out] at hend
    have HE := Lib.hid hend
    clear hend
    go_upto_region 25 with fail
    go_cut [25, 26] (fun s25 s26 wx => ∃ now hc, s25 = .string now ∧ s26 = .int .i64 hc ∧ now.data.toList = (dkRead st3 fileN).1 ∧ hc = (dkRead st3 fileN).2 ∧ Below wc.heap.size wc wx)
    case first =>
      go_wp2_with fail
      refine (show Calls Tryz.prog 32 #[.pointer (some ⟨p, 0, none⟩), .string ⟨#[77, 65, 78, 73, 70, 69, 83, 84]⟩] wc fun e w' => TextPost (dkRead st3 fileN) wc e w' from dk_read wc p b _ HD1.out ⟨#[77, 65, 78, 73, 70, 69, 83, 84]⟩ (by decide)).mono ?_
      rintro e w2 ⟨⟨now, hnow, rfl⟩, hb2⟩
      have HX := Lib.hid (And.intro hnow hb2)
      obtain ⟨hc, hhc⟩ : ∃ hc, hc = (dkRead st3 fileN).2 := ⟨_, rfl⟩
      rw [← hhc]
      have HY := Lib.hid hhc
      clear hnow hb2 hhc
      go_wp2_with fail
      go_meet
      exact ⟨now, hc, rfl, rfl, HX.out.1, HY.out, HX.out.2⟩
    case rest =>
      obtain ⟨now, hc, rfl, rfl, h1, h2, hb2⟩ := hcut
      apply_assumption
      exact wh_mid4 w p b l old _ HOLD.out fo HFO.out _ (B1.out.trans (hb2.mono B1.out.size)) st2 st3 (HD1.out.pure hb2) ab cb (HV1.out.kept (Fr.pure (S := fun _ => False) hb2) (fun _ _ h => h)).at hll hsm want _ HW.out c HE.out now hc h1 h2

end Go.Proofs.YtljmekdilhphaaaGreatDoor
