/- ManifWhole: what is there behind a swap without a cut. -/
import Derived.Test.YtljmekdilhphaaaGreatDoorWhM3
namespace Go.Proofs.YtljmekdilhphaaaGreatDoor
open Go.RowKit Go.Maps Go.Sort

set_option maxRecDepth 100000 in
set_option maxHeartbeats 8000000 in
theorem wh_mid2 (w : World) (p b : Nat) (hpg : w.heap.size < p) (hbg : w.heap.size < b) (st1 : DkSt) (l : Fs) (cp cut : Int) (qHST1 : st1 = ⟨l, cp, if 0 ≤ cut then cut else -1, false⟩)
    (ab : Option Addr) (cb : Nat) (hvb : ∀ j, (Value.slice ab l.length cb).ownBlock = some j → ¬ (j = p ∨ j = b)) (qHNO : ∀ f, fsGet l fileN = some f → f.pend = []) (old : ByteArray) (qHOLD : old.data.toList = (dkRead ⟨l, cp, -1, false⟩ fileN).1) (fo : Int) (qHFO : fo = (dkRead ⟨l, cp, -1, false⟩ fileN).2)
    (g : Int) (m : Segs) (hml : m.length ≤ 100) (hll : l.length ≤ 64) (hsm : ∀ f ∈ l, f.firm.length + f.pend.length ≤ 1048576) (ak : Option Addr) (ck : Nat) (ks : List Int) (qHK : IntsAt w (.slice ak ks.length ck) ks) (hkb : ∀ j, (Value.slice ak ks.length ck).ownBlock = some j → j < w.heap.size)
    (w10 : World) (qB10 : Below w.heap.size w w10) (st2 : DkSt) (qHD10 : IsDk w10 p b st2) (qHV10 : OwnFiles w10 (.slice ab l.length cb) l) (want : ByteArray) (qHW : want.data.toList = wantL g m) (c : Int) (qHSC : st2 = (dkSwap st1 g m).1 ∧ c = (dkSwap st1 g m).2)
    (xb : Nat) (a1 : Option Addr) (c1 : Nat) (qHG10 : SegsAt w10 (.slice a1 m.length c1) m) (x0 : w10.cell? ⟨xb, 0, none⟩ = some (.int .i64 g)) (x1 : w10.cell? ⟨xb, 1, none⟩ = some (.slice a1 m.length c1)) {u0 u1 u2 u5 u6 u7 u8 u9 u10 u12 u16 u19 u21 u22 u23 u24 u25 u26 u27 u28 u29 u30 u31 u32 u33 u34 u35 u36 u37 u38 u39 u40 u41 u42 u43 u44 u45 u46 u47 u48 u49 u50 u51 u52 u53 u54 u55 u56 u57 u58 u59 u60 u61 u62 u63 u64 u65 u66 u67 u68 u69 u70 u71 u72 u73 u74 u75 u76 u77 u78 u79 u80 u81 u82 u83 u84 u85 u86 u87 u88 u89 u90 u91 u92 u93 u94 u95 u96 u97 u98 u99 u100 u101 u102 u103 u104 u105 u106 u107 u108 u109 u110 u111 u112 u113 u114 u115 u116 u117 u118 u119 u120 u121 u122 u123 u124 u125 u126 u127 u128 u129 u130 u131 u132 u133 u134 u135 u136 u137 u138 u139 u140 u141 u142 u143 u144 u145 u146 u147 u148 u149 u150 u151 u152 u153 u154 u155 u156 u157 u158 u159 u160 u161 u162 u163 u164 u165 u166 u167 u168 u169 u170 u171 u172 u173 u174 u175 u176 u177 u178 u179 u180 u181 u182 u183 u184 u185 u186 u187 u188 u189 u190 u191 u192 u193 u194 u195 u196 u197 u198 u199 u200 u201 u202 u203 u204 u205 u206 u207 u208 u209 u210 u211 u212 u213 u214 u215 u216 u217 u218 u219 u220 u221 u222 u223 u224 u225 u226 u227 u228 u229 u230 u231 u232 u233 u234 u235 u236 u237 u238 u239 u240 u241 u242 u243 u244 u245 u246 u247 u248 u249 u250 u251 u252 u253 u254 u255 u256 u257 u258 u259 u260 u261 u262 u263 u264 u265 u266 u267 u268 u269 u270 u271 u272 u273 u274 u275 u276 u277 u278 u279 u280 u281 : Value} :
    Code.wp Tryz.prog (dropS 11 (Tryz.f6.body.getD .skip)) (bodyPost Tryz.prog Tryz.f6 fun e w' => e = .returned (.bool true) ∧ Below w.heap.size w w') { tmps := (List.toArray (u0 :: u1 :: u2 :: .int .i64 cut :: .slice ak ks.length ck :: u5 :: u6 :: u7 :: u8 :: u9 :: u10 :: .pointer (some ⟨p, 0, none⟩) :: u12 :: .slice ab l.length cb :: .string old :: .int .i64 fo :: u16 :: .pointer (some ⟨xb, 0, none⟩) :: .string want :: u19 :: .int .i64 c :: u21 :: u22 :: u23 :: u24 :: u25 :: u26 :: u27 :: u28 :: u29 :: u30 :: u31 :: u32 :: u33 :: u34 :: u35 :: u36 :: u37 :: u38 :: u39 :: u40 :: u41 :: u42 :: u43 :: u44 :: u45 :: u46 :: u47 :: u48 :: u49 :: u50 :: u51 :: u52 :: u53 :: u54 :: u55 :: u56 :: u57 :: u58 :: u59 :: u60 :: u61 :: u62 :: u63 :: u64 :: u65 :: u66 :: u67 :: u68 :: u69 :: u70 :: u71 :: u72 :: u73 :: u74 :: u75 :: u76 :: u77 :: u78 :: u79 :: u80 :: u81 :: u82 :: u83 :: u84 :: u85 :: u86 :: u87 :: u88 :: u89 :: u90 :: u91 :: u92 :: u93 :: u94 :: u95 :: u96 :: u97 :: u98 :: u99 :: u100 :: u101 :: u102 :: u103 :: u104 :: u105 :: u106 :: u107 :: u108 :: u109 :: u110 :: u111 :: u112 :: u113 :: u114 :: u115 :: u116 :: u117 :: u118 :: u119 :: u120 :: u121 :: u122 :: u123 :: u124 :: u125 :: u126 :: u127 :: u128 :: u129 :: u130 :: u131 :: u132 :: u133 :: u134 :: u135 :: u136 :: u137 :: u138 :: u139 :: u140 :: u141 :: u142 :: u143 :: u144 :: u145 :: u146 :: u147 :: u148 :: u149 :: u150 :: u151 :: u152 :: u153 :: u154 :: u155 :: u156 :: u157 :: u158 :: u159 :: u160 :: u161 :: u162 :: u163 :: u164 :: u165 :: u166 :: u167 :: u168 :: u169 :: u170 :: u171 :: u172 :: u173 :: u174 :: u175 :: u176 :: u177 :: u178 :: u179 :: u180 :: u181 :: u182 :: u183 :: u184 :: u185 :: u186 :: u187 :: u188 :: u189 :: u190 :: u191 :: u192 :: u193 :: u194 :: u195 :: u196 :: u197 :: u198 :: u199 :: u200 :: u201 :: u202 :: u203 :: u204 :: u205 :: u206 :: u207 :: u208 :: u209 :: u210 :: u211 :: u212 :: u213 :: u214 :: u215 :: u216 :: u217 :: u218 :: u219 :: u220 :: u221 :: u222 :: u223 :: u224 :: u225 :: u226 :: u227 :: u228 :: u229 :: u230 :: u231 :: u232 :: u233 :: u234 :: u235 :: u236 :: u237 :: u238 :: u239 :: u240 :: u241 :: u242 :: u243 :: u244 :: u245 :: u246 :: u247 :: u248 :: u249 :: u250 :: u251 :: u252 :: u253 :: u254 :: u255 :: u256 :: u257 :: u258 :: u259 :: u260 :: u261 :: u262 :: u263 :: u264 :: u265 :: u266 :: u267 :: u268 :: u269 :: u270 :: u271 :: u272 :: u273 :: u274 :: u275 :: u276 :: u277 :: u278 :: u279 :: u280 :: u281 :: [])), defers := [] } w10 := by
  have B10 := Lib.hid qB10
  clear qB10
  have HD10 := Lib.hid qHD10
  clear qHD10
  have HV10 := Lib.hid qHV10
  clear qHV10
  have HSC := Lib.hid qHSC
  clear qHSC
  have HST1 := Lib.hid qHST1
  clear qHST1
  have HNO := Lib.hid qHNO
  clear qHNO
  have HOLD := Lib.hid qHOLD
  clear qHOLD
  have HFO := Lib.hid qHFO
  clear qHFO
  have HW := Lib.hid qHW
  clear qHW
  have HK := Lib.hid qHK
  clear qHK
  have HKB := Lib.hid hkb
  have HVB := Lib.hid hvb
  have HG10 := Lib.hid qHG10
  clear qHG10
  clear hkb hvb
  conv => arg 2; whnf
  obtain ⟨nw, hnw⟩ : ∃ nw : Bool, nw = ((c == 0) && decide (cut < 0)) := ⟨_, rfl⟩
  have HNW := Lib.hid hnw
  clear hnw
  go_upto_region 18 with fail
  go_cut [109] (fun s wx => s = .bool nw ∧ w10 = wx)
  case first =>
    cases hcb : (c == 0)
    · have e1 : nw = false := by rw [HNW.out, hcb]; rfl
      subst e1
      go_wp2_with fail
      go_meet
      exact ⟨rfl, rfl⟩
    · by_cases hcut : cut < 0
      · have e1 : nw = true := by rw [HNW.out, hcb]; simpa using hcut
        subst e1
        go_wp2_with fail
        go_meet
        exact ⟨rfl, rfl⟩
      · have e1 : nw = false := by rw [HNW.out, hcb]; simpa using hcut
        subst e1
        go_wp2_with fail
        go_meet
        exact ⟨rfl, rfl⟩
  case rest =>
    obtain ⟨rfl, rfl⟩ := hcut
    go_upto_if 109 with fail
    go_cut [] (fun wx => Below w10.heap.size w10 wx)
    case first =>
      cases nw
      · go_wp2_with fail
        go_meet
        exact Below.refl _ _
      · have hcz : (dkSwap st1 g m).2 = 0 := by
          have h1 := HNW.out
          rw [← HSC.out.2]
          cases e : (c == 0)
          · rw [e] at h1; cases h1
          · exact eq_of_beq e
        obtain ⟨hmy, hrd, hrf⟩ := wh_now st1 (by rw [HST1.out]) g m hcz
        rw [← HSC.out.1] at hrd hrf
        have HRD := Lib.hid (And.intro hmy (And.intro hrd hrf))
        clear hmy hrd hrf hcz
        go_wp2_with fail
        refine (load_seal w10 p b st2 HD10.out g m HRD.out.2.1 HRD.out.1).mono ?_
        rintro e w11 ⟨hb11, cd, g', m', v', ⟨rfl, rfl, rfl⟩, hv', hvb', rfl⟩
        obtain ⟨a2, c2, rfl⟩ := hv'.at.shape
        have B11 := Lib.hid hb11
        have HY := Lib.hid hv'.at
        have HX11 := Lib.hid (HG10.out.pure hb11)
        have x0 := (hb11.cell (p := ⟨xb, 0, none⟩) (ltOfCell x0)).trans x0
        have x1 := (hb11.cell (p := ⟨xb, 1, none⟩) (ltOfCell x1)).trans x1
        clear hb11 hv' hvb'
        go_wp2_with fail
        obtain ⟨yb, hyb⟩ : ∃ yb, yb = w11.heap.size := ⟨_, rfl⟩
        have hbz : Below w11.heap.size w11 (w11.alloc (.cells #[.int .i64 g', .slice a2 m'.length c2] 32)) := (Below.refl _ _).alloc (Nat.le_refl _) _
        have B12 := Lib.hid (B11.out.trans (hbz.mono B11.out.size))
        have HY12 := Lib.hid (HY.out.pure hbz)
        have HX12 := Lib.hid (HX11.out.pure hbz)
        have y0 : (w11.alloc (.cells #[.int .i64 g', .slice a2 m'.length c2] 32)).cell? ⟨yb, 0, none⟩ = some (.int .i64 g') := by rw [World.cell?_alloc_at _ _ _ _ hyb]; rfl
        have y1 : (w11.alloc (.cells #[.int .i64 g', .slice a2 m'.length c2] 32)).cell? ⟨yb, 1, none⟩ = some (.slice a2 m'.length c2) := by rw [World.cell?_alloc_at _ _ _ _ hyb]; rfl
        have x0 := (hbz.cell (p := ⟨xb, 0, none⟩) (ltOfCell x0)).trans x0
        have x1 := (hbz.cell (p := ⟨xb, 1, none⟩) (ltOfCell x1)).trans x1
        have HD12 := Lib.hid (HD10.out.pure B12.out)
        rw [← hyb]
        clear hbz hyb
        generalize (w11.alloc (.cells #[.int .i64 g', .slice a2 m'.length c2] 32)) = w12 at *
        refine (show Calls Tryz.prog 32 #[.pointer (some ⟨p, 0, none⟩), .string ⟨#[77, 65, 78, 73, 70, 69, 83, 84, 46, 110, 101, 119]⟩] w12 fun e w' => TextPost ([], 5) w12 e w' from HRD.out.2.2 ▸ dk_read w12 p b st2 HD12.out ⟨#[77, 65, 78, 73, 70, 69, 83, 84, 46, 110, 101, 119]⟩ (by decide)).mono ?_
        rintro e w13 ⟨⟨fr, hfr, rfl⟩, hb13⟩
        have B13 := Lib.hid (B12.out.trans (hb13.mono B12.out.size))
        have HY13 := Lib.hid (HY12.out.pure hb13)
        have HX13 := Lib.hid (HX12.out.pure hb13)
        have y0 := (hb13.cell (p := ⟨yb, 0, none⟩) (ltOfCell y0)).trans y0
        have y1 := (hb13.cell (p := ⟨yb, 1, none⟩) (ltOfCell y1)).trans y1
        have x0 := (hb13.cell (p := ⟨xb, 0, none⟩) (ltOfCell x0)).trans x0
        have x1 := (hb13.cell (p := ⟨xb, 1, none⟩) (ltOfCell x1)).trans x1
        clear hb13 hfr
        go_wp2_with fail
        refine (same_any w13 _ _ (.slice a2 m'.length c2) (.slice a1 m'.length c1) m' m' HY13.out HX13.out (by omega) (by omega)).mono ?_
        rintro e w14 ⟨rfl, hb14⟩
        rw [show (decide (g' = g') && m' == m') = true from by simp]
        have B14 := Lib.hid (B13.out.trans (hb14.mono B13.out.size))
        clear hb14
        go_wp2_with fail
        go_meet
        exact B14.out
    case rest =>
      have HCU := Lib.hid hcut
      clear hcut x0 x1
      apply_assumption
      exact wh_mid3 w p b hpg hbg st1 l cp cut HST1.out ab cb HVB.out HNO.out old HOLD.out fo HFO.out g m hll hsm ak ck ks HK.out HKB.out _ (B10.out.trans (HCU.out.mono B10.out.size)) st2 (HD10.out.pure HCU.out) (HV10.out.kept (Fr.pure (S := fun _ => False) HCU.out) (fun _ _ h => h)) want HW.out c HSC.out

end Go.Proofs.YtljmekdilhphaaaGreatDoor
