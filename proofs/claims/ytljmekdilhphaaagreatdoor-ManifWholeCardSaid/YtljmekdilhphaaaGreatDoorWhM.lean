/- ManifWhole's middle: the swap. -/
import Derived.Test.YtljmekdilhphaaaGreatDoorWhM2
namespace Go.Proofs.YtljmekdilhphaaaGreatDoor
open Go.RowKit Go.Maps Go.Sort

set_option maxRecDepth 100000 in
set_option maxHeartbeats 8000000 in
theorem wh_mid (w : World) (p b : Nat) (hpg : w.heap.size < p) (hbg : w.heap.size < b) (st1 : DkSt) (l : Fs) (cp cut : Int) (qHST1 : st1 = ⟨l, cp, if 0 ≤ cut then cut else -1, false⟩)
    (ab : Option Addr) (cb : Nat) (hvb : ∀ j, (Value.slice ab l.length cb).ownBlock = some j → ¬ (j = p ∨ j = b)) (qHNO : ∀ f, fsGet l fileN = some f → f.pend = []) (old : ByteArray) (qHOLD : old.data.toList = (dkRead ⟨l, cp, -1, false⟩ fileN).1) (fo : Int) (qHFO : fo = (dkRead ⟨l, cp, -1, false⟩ fileN).2)
    (g : Int) (m : Segs) (hml : m.length ≤ 100) (hll : l.length ≤ 64) (hsm : ∀ f ∈ l, f.firm.length + f.pend.length ≤ 1048576) (ak : Option Addr) (ck : Nat) (ks : List Int) (qHK : IntsAt w (.slice ak ks.length ck) ks) (hkb : ∀ j, (Value.slice ak ks.length ck).ownBlock = some j → j < w.heap.size)
    (wc : World) (qB6 : Below w.heap.size w wc) (qHD6 : IsDk wc p b st1) (qHV6 : OwnFiles wc (.slice ab l.length cb) l) (am : Option Addr) (cm : Nat) (HM : SegsAt w (.slice am m.length cm) m)
    (n0 : wc.cell? ⟨w.heap.size, 0, none⟩ = some (.int .i64 g)) (n1 : wc.cell? ⟨w.heap.size, 1, none⟩ = some (.slice am m.length cm)) {u0 u1 u2 u5 u6 u8 u9 u10 u12 u16 u17 u18 u19 u20 u21 u22 u23 u24 u25 u26 u27 u28 u29 u30 u31 u32 u33 u34 u35 u36 u37 u38 u39 u40 u41 u42 u43 u44 u45 u46 u47 u48 u49 u50 u51 u52 u53 u54 u55 u56 u57 u58 u59 u60 u61 u62 u63 u64 u65 u66 u67 u68 u69 u70 u71 u72 u73 u74 u75 u76 u77 u78 u79 u80 u81 u82 u83 u84 u85 u86 u87 u88 u89 u90 u91 u92 u93 u94 u95 u96 u97 u98 u99 u100 u101 u102 u103 u104 u105 u106 u107 u108 u109 u110 u111 u112 u113 u114 u115 u116 u117 u118 u119 u120 u121 u122 u123 u124 u125 u126 u127 u128 u129 u130 u131 u132 u133 u134 u135 u136 u137 u138 u139 u140 u141 u142 u143 u144 u145 u146 u147 u148 u149 u150 u151 u152 u153 u154 u155 u156 u157 u158 u159 u160 u161 u162 u163 u164 u165 u166 u167 u168 u169 u170 u171 u172 u173 u174 u175 u176 u177 u178 u179 u180 u181 u182 u183 u184 u185 u186 u187 u188 u189 u190 u191 u192 u193 u194 u195 u196 u197 u198 u199 u200 u201 u202 u203 u204 u205 u206 u207 u208 u209 u210 u211 u212 u213 u214 u215 u216 u217 u218 u219 u220 u221 u222 u223 u224 u225 u226 u227 u228 u229 u230 u231 u232 u233 u234 u235 u236 u237 u238 u239 u240 u241 u242 u243 u244 u245 u246 u247 u248 u249 u250 u251 u252 u253 u254 u255 u256 u257 u258 u259 u260 u261 u262 u263 u264 u265 u266 u267 u268 u269 u270 u271 u272 u273 u274 u275 u276 u277 u278 u279 u280 u281 : Value} :
    Code.wp Tryz.prog (dropS 8 (Tryz.f6.body.getD .skip)) (bodyPost Tryz.prog Tryz.f6 fun e w' => e = .returned (.bool true) ∧ Below w.heap.size w w') { tmps := (List.toArray (u0 :: u1 :: u2 :: .int .i64 cut :: .slice ak ks.length ck :: u5 :: u6 :: .pointer (some ⟨w.heap.size, 0, none⟩) :: u8 :: u9 :: u10 :: .pointer (some ⟨p, 0, none⟩) :: u12 :: .slice ab l.length cb :: .string old :: .int .i64 fo :: u16 :: u17 :: u18 :: u19 :: u20 :: u21 :: u22 :: u23 :: u24 :: u25 :: u26 :: u27 :: u28 :: u29 :: u30 :: u31 :: u32 :: u33 :: u34 :: u35 :: u36 :: u37 :: u38 :: u39 :: u40 :: u41 :: u42 :: u43 :: u44 :: u45 :: u46 :: u47 :: u48 :: u49 :: u50 :: u51 :: u52 :: u53 :: u54 :: u55 :: u56 :: u57 :: u58 :: u59 :: u60 :: u61 :: u62 :: u63 :: u64 :: u65 :: u66 :: u67 :: u68 :: u69 :: u70 :: u71 :: u72 :: u73 :: u74 :: u75 :: u76 :: u77 :: u78 :: u79 :: u80 :: u81 :: u82 :: u83 :: u84 :: u85 :: u86 :: u87 :: u88 :: u89 :: u90 :: u91 :: u92 :: u93 :: u94 :: u95 :: u96 :: u97 :: u98 :: u99 :: u100 :: u101 :: u102 :: u103 :: u104 :: u105 :: u106 :: u107 :: u108 :: u109 :: u110 :: u111 :: u112 :: u113 :: u114 :: u115 :: u116 :: u117 :: u118 :: u119 :: u120 :: u121 :: u122 :: u123 :: u124 :: u125 :: u126 :: u127 :: u128 :: u129 :: u130 :: u131 :: u132 :: u133 :: u134 :: u135 :: u136 :: u137 :: u138 :: u139 :: u140 :: u141 :: u142 :: u143 :: u144 :: u145 :: u146 :: u147 :: u148 :: u149 :: u150 :: u151 :: u152 :: u153 :: u154 :: u155 :: u156 :: u157 :: u158 :: u159 :: u160 :: u161 :: u162 :: u163 :: u164 :: u165 :: u166 :: u167 :: u168 :: u169 :: u170 :: u171 :: u172 :: u173 :: u174 :: u175 :: u176 :: u177 :: u178 :: u179 :: u180 :: u181 :: u182 :: u183 :: u184 :: u185 :: u186 :: u187 :: u188 :: u189 :: u190 :: u191 :: u192 :: u193 :: u194 :: u195 :: u196 :: u197 :: u198 :: u199 :: u200 :: u201 :: u202 :: u203 :: u204 :: u205 :: u206 :: u207 :: u208 :: u209 :: u210 :: u211 :: u212 :: u213 :: u214 :: u215 :: u216 :: u217 :: u218 :: u219 :: u220 :: u221 :: u222 :: u223 :: u224 :: u225 :: u226 :: u227 :: u228 :: u229 :: u230 :: u231 :: u232 :: u233 :: u234 :: u235 :: u236 :: u237 :: u238 :: u239 :: u240 :: u241 :: u242 :: u243 :: u244 :: u245 :: u246 :: u247 :: u248 :: u249 :: u250 :: u251 :: u252 :: u253 :: u254 :: u255 :: u256 :: u257 :: u258 :: u259 :: u260 :: u261 :: u262 :: u263 :: u264 :: u265 :: u266 :: u267 :: u268 :: u269 :: u270 :: u271 :: u272 :: u273 :: u274 :: u275 :: u276 :: u277 :: u278 :: u279 :: u280 :: u281 :: [])), defers := [] } wc := by
  have hp6 := qHD6.lt
  have hb6 := qHD6.own.lt
  have HM6 := Lib.hid (HM.pure qB6)
  have B6 := Lib.hid qB6
  clear qB6
  have HD6 := Lib.hid qHD6
  clear qHD6
  have HV6 := Lib.hid qHV6
  clear qHV6
  have HNO := Lib.hid qHNO
  clear qHNO
  have HOLD := Lib.hid qHOLD
  clear qHOLD
  have HFO := Lib.hid qHFO
  clear qHFO
  have HST1 := Lib.hid qHST1
  clear qHST1
  have HVB := Lib.hid hvb
  have HK := Lib.hid qHK
  clear qHK
  have HKB := Lib.hid hkb
  clear HM hkb
  conv => arg 2; whnf
  go_wp2_with fail
  refine (given_any wc g (.slice am m.length cm) m HM6.out (by omega)).mono ?_
  rintro e w7 ⟨gv, rfl, hgv, hgb, hb7⟩
  have B7 := Lib.hid (B6.out.trans (hb7.mono B6.out.size))
  have HD7 := Lib.hid (HD6.out.pure hb7)
  have HV7 := Lib.hid (HV6.out.kept (Fr.pure (S := fun _ => False) hb7) (fun _ _ h => h))
  obtain ⟨a1, c1, rfl⟩ := hgv.at.shape
  have HG7 := Lib.hid hgv.at
  have hs67 := hb7.size
  clear hb7 hgv n0 n1 hvb
  go_wp2_with fail
  obtain ⟨xb, hxb⟩ : ∃ xb, xb = w7.heap.size := ⟨_, rfl⟩
  have hbz : Below w7.heap.size w7 (w7.alloc (.cells #[.int .i64 g, .slice a1 m.length c1] 32)) := (Below.refl _ _).alloc (Nat.le_refl _) _
  have B8 := Lib.hid (B7.out.trans (hbz.mono B7.out.size))
  have HG8 := Lib.hid (HG7.out.pure hbz)
  have HD8 := Lib.hid (HD7.out.pure hbz)
  have HV8 := Lib.hid (HV7.out.kept (Fr.pure (S := fun _ => False) hbz) (fun _ _ h => h))
  have x0 : (w7.alloc (.cells #[.int .i64 g, .slice a1 m.length c1] 32)).cell? ⟨xb, 0, none⟩ = some (.int .i64 g) := by rw [World.cell?_alloc_at _ _ _ _ hxb]; rfl
  have x1 : (w7.alloc (.cells #[.int .i64 g, .slice a1 m.length c1] 32)).cell? ⟨xb, 1, none⟩ = some (.slice a1 m.length c1) := by rw [World.cell?_alloc_at _ _ _ _ hxb]; rfl
  have hxp : xb ≠ p ∧ xb ≠ b := by omega
  have hs78 := hbz.size
  rw [← hxb]
  clear hbz hxb
  generalize (w7.alloc (.cells #[.int .i64 g, .slice a1 m.length c1] 32)) = w8 at *
  refine (make_any w8 g (.slice a1 m.length c1) m HG8.out (by omega)).mono ?_
  rintro e w9 ⟨⟨want, hwant, rfl⟩, hb9⟩
  have B9 := Lib.hid (B8.out.trans (hb9.mono B8.out.size))
  have HD9 := Lib.hid (HD8.out.pure hb9)
  have HV9 := Lib.hid (HV8.out.kept (Fr.pure (S := fun _ => False) hb9) (fun _ _ h => h))
  have HG9 := Lib.hid (HG8.out.pure hb9)
  have x0 := (hb9.cell (p := ⟨xb, 0, none⟩) (ltOfCell x0)).trans x0
  have x1 := (hb9.cell (p := ⟨xb, 1, none⟩) (ltOfCell x1)).trans x1
  have HW := Lib.hid hwant
  have hs89 := hb9.size
  clear hb9 hwant
  obtain ⟨st2, hst2⟩ : ∃ st2, st2 = (dkSwap st1 g m).1 := ⟨_, rfl⟩
  obtain ⟨c, hc⟩ : ∃ c, c = (dkSwap st1 g m).2 := ⟨_, rfl⟩
  have HSC := Lib.hid (And.intro hst2 hc)
  clear hst2 hc
  go_upto_region 17 with fail
  go_cut [20] (fun s wx => s = .int .i64 c ∧ IsDk wx p b st2 ∧ DFr p b w9 wx)
  case first =>
    go_wp2_with fail
    refine (swap_any w9 p b st1 HD9.out g (.slice a1 m.length c1) m HG9.out (by omega)).mono ?_
    rintro e w10 ⟨rfl, hd10, hf10⟩
    rw [← HSC.out.2]
    rw [← HSC.out.1] at hd10
    have HX := Lib.hid (And.intro hd10 hf10)
    clear hd10 hf10
    go_wp2_with fail
    go_meet
    exact ⟨rfl, HX.out⟩
  case rest =>
    obtain ⟨rfl, hd10, hf10⟩ := hcut
    have hgne : ∀ j, (Value.slice a1 m.length c1).ownBlock = some j → ¬ (j = p ∨ j = b) := fun j e => by have := hgb j e; omega
    have x0 := hf10.cellAt x0 (by omega)
    have x1 := hf10.cellAt x1 (by omega)
    have B10 := B9.out.trans (hf10.below (B := w.heap.size) B9.out.size (fun k hk => by omega))
    apply_assumption
    exact wh_mid2 w p b hpg hbg st1 l cp cut HST1.out ab cb HVB.out HNO.out old HOLD.out fo HFO.out g m hml hll hsm ak ck ks HK.out HKB.out _ B10 st2 hd10 (HV9.out.kept hf10 HVB.out) want HW.out c HSC.out xb a1 c1 (HG9.out.kept hf10 hgne) x0 x1

end Go.Proofs.YtljmekdilhphaaaGreatDoor
