/- The number that digits say; the order of texts, plainly. -/
import Derived.Shelf.Strings.SlTrimAscii
import Derived.Shelf.Strings.Builder2
import Derived.Shelf.LaysM
import Derived.Shelf.Strconv.Itoa4
import Derived.Shelf.Strings.Repeat
import Derived.Shelf.SlIter.Nil
import Derived.Shelf.SortM.Plain
import Derived.Shelf.SortM.SortNone
import Derived.Ground.GgzProg
import Derived.Ground.SlgmProg
import Derived.Lib.ItoaLen
import Derived.Test.YthjjgcfdhkhelaaGreatDoorQAd
import Derived.Shelf.Strings.Prefix
import Derived.Shelf.Slices.Turned
import Derived.Lib.ParseIntB
import Derived.Lib.IndexMore
import Derived.Shelf.Strings.Cut
import Derived.Shelf.Strconv.ParseIntPublic10
import Derived.Lib.SmallJoins
set_option maxHeartbeats 2000000
set_option maxRecDepth 100000
open Go.Lib(hid)
open Go.Proofs.Tryz
namespace Go.Proofs
section
open Go.Shelf Tryz
theorem Tryz.qz {α:Type}{a:Option α}{b c:α}(h:a=some b)(k:b=c:=by kernel_rfl):a=some c:=h.trans (congrArg some k)
def Tryz.lays160_ren:Go.Shelf.Ren:=⟨fun|160=>148|232=>196|231=>195|227=>197|234=>199|233=>198|236=>201|235=>200|228=>270|271=>273|151=>272|197=>271|120=>355|152=>354|260=>353|137=>406|119=>407|224=>392|225=>391|217=>390|266=>447|n=>n,fun|9=>9|4=>4|3=>3|5=>5|117=>275|116=>274|0=>0|124=>278|21=>21|105=>366|46=>246|119=>484|139=>487|138=>486|n=>n,fun|3=>4|4=>5|n=>n⟩
theorem Tryz.lays160:Go.Proofs.Lays.n160 prog Tryz.lays160_ren:={
 mixed:=by kernel_rfl
 f119:=qz func407
 f120:=qz func355
 f137:=qz func406
 f151:=qz func272
 f152:=qz func354
 f160:=qz func148
 f197:=qz func271
 f217:=qz func390
 f224:=qz func392
 f225:=qz func391
 f227:=qz func197
 f228:=qz func270
 f231:=qz func195
 f232:=qz func196
 f233:=qz func198
 f234:=qz func199
 f235:=qz func200
 f236:=qz func201
 f260:=qz func353
 f266:=qz func447
 f271:=qz func273
 t0:=underlying0
 a0:=isAgg0
 z0:=sizeOf0
 v0:=zeroValue0
 t3:=underlying3
 a3:=isAgg3
 z3:=sizeOf3
 v3:=zeroValue3
 t4:=underlying4
 a4:=isAgg4
 z4:=sizeOf4
 v4:=zeroValue4
 t5:=underlying5
 a5:=isAgg5
 z5:=sizeOf5
 v5:=zeroValue5
 t9:=underlying9
 a9:=isAgg9
 z9:=sizeOf9
 v9:=zeroValue9
 t21:=underlying21
 a21:=isAgg21
 z21:=sizeOf21
 v21:=zeroValue21
 t46:=underlying246
 a46:=isAgg246
 z46:=sizeOf246
 v46:=zeroValue246
 t105:=underlying366
 a105:=isAgg366
 z105:=sizeOf366
 v105:=zeroValue366
 t116:=underlying274
 a116:=isAgg274
 z116:=sizeOf274
 t117:=underlying275
 a117:=isAgg275
 z117:=sizeOf275
 v117:=zeroValue275
 t119:=underlying484
 a119:=isAgg484
 z119:=sizeOf484
 t124:=underlying278
 a124:=isAgg278
 z124:=sizeOf278
 v124:=zeroValue278
 t138:=underlying486
 a138:=isAgg486
 z138:=sizeOf486
 v138:=zeroValue486
 t139:=underlying487
 a139:=isAgg487
 z139:=sizeOf487
 v139:=zeroValue487
 g3:=by kernel_rfl
 g4:=by kernel_rfl }
def Tryz.laysM173_ren:Go.Shelf.Ren:=⟨fun|173=>133|246=>172|283=>251|284=>252|285=>253|286=>254|129=>311|317=>310|318=>312|319=>313|320=>314|337=>388|338=>389|n=>n,fun|2=>2|3=>3|9=>9|4=>4|171=>346|0=>0|53=>184|37=>178|5=>5|173=>349|212=>404|51=>182|20=>20|213=>405|46=>246|232=>530|233=>531|n=>n,fun|17=>0|18=>7|19=>8|n=>n⟩
theorem Tryz.laysM173:Go.Proofs.LaysM.n173 prog Tryz.laysM173_ren:={
 mixed:=by kernel_rfl
 f129:=qz func311
 f173:=qz func133
 f246:=qz func172
 f283:=qz func251
 f284:=qz func252
 f285:=qz func253
 f286:=qz func254
 f317:=qz func310
 f318:=qz func312
 f319:=qz func313
 f320:=qz func314
 f337:=qz func388
 f338:=qz func389
 t0:=underlying0
 a0:=isAgg0
 z0:=sizeOf0
 v0:=zeroValue0
 t2:=underlying2
 a2:=isAgg2
 z2:=sizeOf2
 v2:=zeroValue2
 t3:=underlying3
 a3:=isAgg3
 z3:=sizeOf3
 v3:=zeroValue3
 t4:=underlying4
 a4:=isAgg4
 z4:=sizeOf4
 v4:=zeroValue4
 t5:=underlying5
 a5:=isAgg5
 z5:=sizeOf5
 v5:=zeroValue5
 t9:=underlying9
 a9:=isAgg9
 z9:=sizeOf9
 v9:=zeroValue9
 t20:=underlying20
 a20:=isAgg20
 z20:=sizeOf20
 v20:=zeroValue20
 t37:=underlying178
 a37:=isAgg178
 z37:=sizeOf178
 v37:=zeroValue178
 t46:=underlying246
 a46:=isAgg246
 z46:=sizeOf246
 v46:=zeroValue246
 t51:=underlying182
 a51:=isAgg182
 z51:=sizeOf182
 v51:=zeroValue182
 t53:=underlying184
 a53:=isAgg184
 z53:=sizeOf184
 v53:=zeroValue184
 t171:=underlying346
 a171:=isAgg346
 z171:=sizeOf346
 v171:=zeroValue346
 t173:=underlying349
 a173:=isAgg349
 z173:=sizeOf349
 v173:=zeroValue349
 t212:=underlying404
 a212:=isAgg404
 z212:=sizeOf404
 v212:=zeroValue404
 t213:=underlying405
 a213:=isAgg405
 z213:=sizeOf405
 t232:=underlying530
 a232:=isAgg530
 z232:=sizeOf530
 v232:=zeroValue530
 t233:=underlying531
 a233:=isAgg531
 z233:=sizeOf531
 v233:=zeroValue531
 g17:=by kernel_rfl
 g18:=by kernel_rfl
 g19:=by kernel_rfl
 i0:=by kernel_rfl
 i2:=by kernel_rfl
 i3:=by kernel_rfl
 i4:=by kernel_rfl
 i5:=by kernel_rfl
 i9:=by kernel_rfl
 i20:=by kernel_rfl
 i37:=by kernel_rfl
 i46:=by kernel_rfl
 i51:=by kernel_rfl
 i53:=by kernel_rfl
 i171:=by kernel_rfl
 i173:=by kernel_rfl
 i212:=by kernel_rfl
 i232:=by kernel_rfl
 i233:=by kernel_rfl
 m17:=by kernel_rfl
 m18:=by kernel_rfl
 m19:=by kernel_rfl }
open Go.RowKit Go.Sort Go.Lib in
theorem Tryz.strconv_FormatInt_10 (n:Int)(h0 : -9223372036854775808≤n)(h1:n≤9223372036854775807)(w:World)(htab:Lib.TabIs prog w "internal/strconv.uint64pow10" .u64 Lib.pow10Tab) :
  Calls prog 133 #[.int .i64 n,.int .i64 10] w λe w'=>e = .returned (.string ⟨(Lib.itoa n).toArray⟩)∧∃k os,w'=grow (w.drewN k) os:=Any.strconv_FormatInt_10 Tryz.laysM173 n h0 h1 w htab
def Tryz.lays105_ren:Go.Shelf.Ren:=⟨fun|105=>134|212=>173|99=>174|165=>175|166=>176|170=>177|169=>178|263=>255|264=>256|206=>257|240=>258|241=>259|276=>315|277=>316|n=>n,fun|9=>9|3=>3|4=>4|20=>20|0=>0|46=>246|109=>247|5=>5|72=>252|76=>255|51=>182|146=>351|53=>184|148=>353|70=>250|37=>178|75=>254|127=>355|164=>406|80=>113|n=>n,fun|n=>n⟩
theorem Tryz.lays105:Go.Proofs.Lays.n105 prog Tryz.lays105_ren:={
 mixed:=by kernel_rfl
 f99:=qz func174
 f105:=qz func134
 f165:=qz func175
 f166:=qz func176
 f169:=qz func178
 f170:=qz func177
 f206:=qz func257
 f212:=qz func173
 f240:=qz func258
 f241:=qz func259
 f263:=qz func255
 f264:=qz func256
 f276:=qz func315
 f277:=qz func316
 t0:=underlying0
 a0:=isAgg0
 z0:=sizeOf0
 v0:=zeroValue0
 t3:=underlying3
 a3:=isAgg3
 z3:=sizeOf3
 v3:=zeroValue3
 t4:=underlying4
 a4:=isAgg4
 z4:=sizeOf4
 v4:=zeroValue4
 t5:=underlying5
 a5:=isAgg5
 z5:=sizeOf5
 v5:=zeroValue5
 t9:=underlying9
 a9:=isAgg9
 z9:=sizeOf9
 v9:=zeroValue9
 t20:=underlying20
 a20:=isAgg20
 z20:=sizeOf20
 v20:=zeroValue20
 t37:=underlying178
 a37:=isAgg178
 z37:=sizeOf178
 v37:=zeroValue178
 t46:=underlying246
 a46:=isAgg246
 z46:=sizeOf246
 v46:=zeroValue246
 t51:=underlying182
 a51:=isAgg182
 z51:=sizeOf182
 v51:=zeroValue182
 t53:=underlying184
 a53:=isAgg184
 z53:=sizeOf184
 v53:=zeroValue184
 t70:=underlying250
 a70:=isAgg250
 z70:=sizeOf250
 v70:=zeroValue250
 t72:=underlying252
 a72:=isAgg252
 z72:=sizeOf252
 v72:=zeroValue252
 t75:=underlying254
 a75:=isAgg254
 z75:=sizeOf254
 v75:=zeroValue254
 t76:=underlying255
 a76:=isAgg255
 z76:=sizeOf255
 v76:=zeroValue255
 t109:=underlying247
 a109:=isAgg247
 z109:=sizeOf247
 v109:=zeroValue247
 t127:=underlying355
 a127:=isAgg355
 z127:=sizeOf355
 v127:=zeroValue355
 t146:=underlying351
 a146:=isAgg351
 z146:=sizeOf351
 v146:=zeroValue351
 t148:=underlying353
 a148:=isAgg353
 z148:=sizeOf353
 v148:=zeroValue353
 t164:=underlying406
 a164:=isAgg406
 z164:=sizeOf406
 v164:=zeroValue406 }
theorem Tryz.Builder_Extra_105:Builder.Extra prog Tryz.lays105_ren:={
 sizeBuilder:=by kernel_rfl
 liesBuilder:=by kernel_rfl
 t5:=underlying5
 a5:=isAgg5
 z5:=sizeOf5
 v5:=zeroValue5
 infoByte:=by kernel_rfl
 cellsByte:=by kernel_rfl
 sizeByte:=by kernel_rfl
 neB5:=by decide }
open Go.RowKit Go.Lib in
theorem Tryz.strings_Repeat (s:ByteArray)(c:Nat)(w:World)(hc:c≤9223372036854775807)(hlen:s.size*c≤140737488355328) :
  Calls prog 134 #[.string s,.int .i64 c] w λe w'=>e = .returned (.string ⟨(Lib.repeatL s.data.toList c).toArray⟩)∧Below w.heap.size w w':=Any.strings_Repeat Tryz.lays105 Tryz.Builder_Extra_105 s c w hc hlen
def Tryz.laysSlM6_f203_ren:Go.Shelf.Ren:=⟨fun|6=>203|8=>276|9=>275|19=>365|20=>311|21=>356|22=>357|23=>358|24=>359|25=>360|26=>361|27=>362|28=>363|29=>364|36=>408|31=>409|32=>410|37=>411|38=>412|39=>413|41=>451|n=>n,fun|27=>70|29=>9|3=>3|32=>246|26=>70|0=>0|44=>182|46=>184|4=>4|36=>448|35=>447|41=>375|5=>5|9=>9|53=>489|57=>492|63=>536|64=>537|n=>n,fun|n=>n⟩
theorem Tryz.laysSlM6_f203:Go.Proofs.SlLaysM.n6 prog Tryz.laysSlM6_f203_ren:={
 mixed:=by kernel_rfl
 f6:=⟨Tryz.f203.name,by decide,func203.trans (congrArg some (by kernel_rfl))⟩
 f8:=qz func276
 f9:=⟨Tryz.f275.name,by decide,func275.trans (congrArg some (by kernel_rfl))⟩
 f19:=qz func365
 f20:=qz func311
 f21:=⟨Tryz.f356.name,by decide,func356.trans (congrArg some (by kernel_rfl))⟩
 f22:=⟨Tryz.f357.name,by decide,func357.trans (congrArg some (by kernel_rfl))⟩
 f23:=⟨Tryz.f358.name,by decide,func358.trans (congrArg some (by kernel_rfl))⟩
 f24:=⟨Tryz.f359.name,by decide,func359.trans (congrArg some (by kernel_rfl))⟩
 f25:=⟨Tryz.f360.name,by decide,func360.trans (congrArg some (by kernel_rfl))⟩
 f26:=⟨Tryz.f361.name,by decide,func361.trans (congrArg some (by kernel_rfl))⟩
 f27:=⟨Tryz.f362.name,by decide,func362.trans (congrArg some (by kernel_rfl))⟩
 f28:=⟨Tryz.f363.name,by decide,func363.trans (congrArg some (by kernel_rfl))⟩
 f29:=⟨Tryz.f364.name,by decide,func364.trans (congrArg some (by kernel_rfl))⟩
 f31:=qz func409
 f32:=qz func410
 f36:=⟨Tryz.f408.name,by decide,func408.trans (congrArg some (by kernel_rfl))⟩
 f37:=⟨Tryz.f411.name,by decide,func411.trans (congrArg some (by kernel_rfl))⟩
 f38:=⟨Tryz.f412.name,by decide,func412.trans (congrArg some (by kernel_rfl))⟩
 f39:=⟨Tryz.f413.name,by decide,func413.trans (congrArg some (by kernel_rfl))⟩
 f41:=⟨Tryz.f451.name,by decide,func451.trans (congrArg some (by kernel_rfl))⟩
 t0:=underlying0
 a0:=isAgg0
 z0:=sizeOf0
 v0:=zeroValue0
 t3:=underlying3
 a3:=isAgg3
 z3:=sizeOf3
 v3:=zeroValue3
 t4:=underlying4
 a4:=isAgg4
 z4:=sizeOf4
 v4:=zeroValue4
 t5:=underlying5
 a5:=isAgg5
 z5:=sizeOf5
 v5:=zeroValue5
 t9:=underlying9
 a9:=isAgg9
 z9:=sizeOf9
 v9:=zeroValue9
 t26:=underlying70
 a26:=isAgg70
 z26:=sizeOf70
 v26:=zeroValue70
 t27:=underlying70
 a27:=isAgg70
 z27:=sizeOf70
 v27:=zeroValue70
 t29:=underlying9
 a29:=isAgg9
 z29:=sizeOf9
 v29:=zeroValue9
 t32:=underlying246
 a32:=isAgg246
 z32:=sizeOf246
 v32:=zeroValue246
 t35:=underlying447
 a35:=isAgg447
 z35:=sizeOf447
 v35:=zeroValue447
 t36:=underlying448
 a36:=isAgg448
 z36:=sizeOf448
 v36:=zeroValue448
 t41:=underlying375
 a41:=isAgg375
 z41:=sizeOf375
 v41:=zeroValue375
 t44:=underlying182
 a44:=isAgg182
 z44:=sizeOf182
 v44:=zeroValue182
 t46:=underlying184
 a46:=isAgg184
 z46:=sizeOf184
 v46:=zeroValue184
 t53:=underlying489
 a53:=isAgg489
 z53:=sizeOf489
 v53:=zeroValue489
 t57:=underlying492
 a57:=isAgg492
 z57:=sizeOf492
 v57:=zeroValue492
 t63:=underlying536
 a63:=isAgg536
 z63:=sizeOf536
 v63:=zeroValue536
 t64:=underlying537
 a64:=isAgg537
 z64:=sizeOf537
 v64:=zeroValue537 }
def Tryz.keysX_ren:Go.Shelf.Ren:=⟨fun|7=>150|10=>204|n=>n,fun|23=>146|26=>9|3=>142|28=>216|0=>0|27=>215|33=>152|4=>4|n=>n,fun|n=>n⟩
theorem Tryz.keysX:Go.Proofs.SlLaysZ.n7 prog Tryz.keysX_ren:={
 mixed:=by kernel_rfl
 f7:=⟨Tryz.f150.name,by decide,func150.trans (congrArg some (by kernel_rfl))⟩
 f10:=⟨Tryz.f204.name,by decide,func204.trans (congrArg some (by kernel_rfl))⟩
 t0:=underlying0
 a0:=isAgg0
 z0:=sizeOf0
 v0:=zeroValue0
 t4:=underlying4
 a4:=isAgg4
 z4:=sizeOf4
 v4:=zeroValue4
 t23:=underlying146
 a23:=isAgg146
 z23:=sizeOf146
 v23:=zeroValue146
 t26:=underlying9
 a26:=isAgg9
 z26:=sizeOf9
 v26:=zeroValue9
 t27:=underlying215
 a27:=isAgg215
 z27:=sizeOf215
 v27:=zeroValue215
 t28:=underlying216
 a28:=isAgg216
 z28:=sizeOf216
 v28:=zeroValue216
 t33:=underlying152
 a33:=isAgg152
 z33:=sizeOf152
 v33:=zeroValue152 }
def Tryz.sortedX_ren:Go.Shelf.Ren:=⟨fun|6=>149|8=>202|9=>203|11=>274|13=>276|12=>275|23=>365|24=>311|14=>356|15=>357|16=>358|17=>359|18=>360|19=>361|20=>362|21=>363|22=>364|25=>408|26=>409|27=>410|28=>411|29=>412|30=>413|31=>451|n=>n,fun|26=>9|28=>216|24=>70|0=>0|3=>3|37=>246|48=>182|50=>184|4=>4|40=>448|39=>447|45=>375|5=>5|9=>9|51=>489|55=>492|57=>536|58=>537|33=>152|n=>n,fun|n=>n⟩
theorem Tryz.sortedX:Go.Proofs.SlLaysZ.n6 prog Tryz.sortedX_ren:={
 mixed:=by kernel_rfl
 f6:=⟨Tryz.f149.name,by decide,func149.trans (congrArg some (by kernel_rfl))⟩
 f8:=⟨Tryz.f202.name,by decide,func202.trans (congrArg some (by kernel_rfl))⟩
 f11:=⟨Tryz.f274.name,by decide,func274.trans (congrArg some (by kernel_rfl))⟩
 t0:=underlying0
 a0:=isAgg0
 z0:=sizeOf0
 v0:=zeroValue0
 t24:=underlying70
 a24:=isAgg70
 z24:=sizeOf70
 v24:=zeroValue70
 t26:=underlying9
 a26:=isAgg9
 z26:=sizeOf9
 v26:=zeroValue9
 t28:=underlying216
 a28:=isAgg216
 z28:=sizeOf216
 v28:=zeroValue216
 i26:=by kernel_rfl }
end
section
open Go.RowKit Go.Maps Go.Sort Go.Shelf
theorem Tryz.sortsX (m:Nat):AnyZ.SortsIn prog Tryz.sortedX_ren Fence.wide m:=
 ⟨λblk off cap ss W hH hblk hsz=>callsIn_wide.2 (AnyM.slices_Sort_string Tryz.laysSlM6_f203 blk off cap ss W hH hblk hsz),
  λp cap W=>callsIn_wide.2 (AnyM.slices_Sort_string_none Tryz.laysSlM6_f203 p cap W)⟩
theorem Tryz.maps_Keys_X (mb:Option Nat)(W:World):CallsIn Fence.wide 5 prog 150 #[.map mb] W λe w'=>e = .returned (.func (.func 204) #[] #[.pointer (some ⟨W.heap.size,0,none⟩)])∧w'=W.alloc (.cells #[.map mb] 146):=
 AnyZ.keys_in Tryz.keysX Fence.wide 5 trivial rfl mb W
theorem Tryz.slices_Sorted_keys_X {H:Type}(b nn:Nat)(D0:DataW H)(R:Value→Option (DataW H×List MemPlace))(w:World)(hown:w.ownsMap prog 9 R b nn D0)(hmax:Maps.size D0≤maxLen)(hbytes:Maps.size D0*16≤140737488355328) :
  CallsIn Fence.wide 5 prog 149 #[.func (.func 204) #[] #[.pointer (some ⟨w.heap.size,0,none⟩)]] (w.alloc (.cells #[.map (some b)] 146)) λe w'=>∃(v:Value) (ss:List (List UInt8)),e = .returned v∧ss.Perm (strKeys D0) ∧
   w'.ownsRow (w.alloc (.cells #[.map (some b)] 146)).heap.size 9 1 v ss.length ((ss.mergeSort (λx y=>decide (x≤y))).map encStr)∧(v = .slice none 0 0↔ss=[])∧Below (w.alloc (.cells #[.map (some b)] 146)).heap.size (w.alloc (.cells #[.map (some b)] 146)) w':=by
 have hbl:=hown.lt;have hseq:SeqGives Fence.wide 2 prog 204 #[.pointer (some ⟨w.heap.size,0,none⟩)] encStr (λss=>ss.Perm (strKeys D0)) (Maps.size D0) (w.alloc (.cells #[.map (some b)] 146)):=
  AnyZ.keys_gives (ρ:=Tryz.keysX_ren) { Tryz.keysX with } Fence.wide _ trivial rfl (by omega) w.heap.size b nn D0 _ (by simp) (by simp) (by
   obtain⟨es,clock,hb,Ft,hs,hD⟩:=hown;exact⟨es,clock,(Below.heap_alloc _ _ b hbl).trans hb,Ft,hs,hD⟩)
 exact AnyZ.sorted_in Tryz.sortedX Fence.wide 5 trivial trivial trivial trivial rfl (by omega) (Tryz.sortsX _) (enters_of func203 (by kernel_rfl) rfl) 204 #[.pointer (some ⟨w.heap.size,0,none⟩)] trivial (enters_of func204 (by kernel_rfl) rfl) _ _ hmax hbytes _ hseq
end
end Go.Proofs
namespace Go.Proofs.YthjjgcfdhkhelaaGreatDoor
section
open Go.RowKit Go.Sort
abbrev Pow (w:World):Prop:=Lib.TabIs prog w "internal/strconv.uint64pow10" .u64 Lib.pow10Tab
theorem bR {w:World}(h:Pow w):0<w.heap.size:=by
 unfold Pow Lib.TabIs World.var? at h;rw[show prog.globalNamed "internal/strconv.uint64pow10" = some 0 from by kernel_rfl]at h;simp only[Option.bind_some]at h
 rcases Nat.lt_or_ge 0 w.heap.size with h'|h'
 ·exact h'
 ·rw[Array.getElem?_eq_none h']at h;cases h
theorem Fr.pow {S:Nat→Prop}{w w':World}(hf:Fr S w w')(h:Pow w)(hs:¬S 0):Pow w':=by
 have hl:=bR h;unfold Pow Lib.TabIs World.var? at h ⊢;rw[show prog.globalNamed "internal/strconv.uint64pow10" = some 0 from by kernel_rfl]at h ⊢;simp only[Option.bind_some]at h ⊢;rw[hf.block _ hl hs];exact h
theorem bS {w w':World}(hb:Below w.heap.size w w')(h:Pow w):Pow w':=(Fr.pure (S:=λ_=>False) hb).pow h (λh=>h)
def bT (n:Nat):List UInt8:=List.replicate n 48
theorem bU (c:Nat):Lib.repeatL [48] c=bT c:=by
 induction c with
 | zero=>rfl
 | succ c ih=>unfold Lib.repeatL bT;rw[ih,List.replicate_succ];rfl
def bV (n:Int)(d:Nat):List UInt8:=bT (d-(Lib.itoa n).length)++Lib.itoa n
def bW (f:Int):Bool:=decide (0≤f) && decide (f≤1048576)
theorem bX (n:Int)(d:Nat)(h0 : -9223372036854775808≤n)(h1:n≤9223372036854775807):(bV n d).length≤d+21:=by
 unfold bV bT;have:=Lib.itoa_length_le n h0 h1;rw[List.length_append,List.length_replicate];omega
theorem bY (w:World)(hp:Pow w)(n:Int)(h0 : -9223372036854775808≤n)(h1:n≤9223372036854775807)(d:Nat)(hd:d≤100) :
  Calls prog 96 #[.int .i64 n,.int .i64 d] w λe w'=>(∃r:ByteArray,r.data.toList=bV n d∧e = .returned (.string r))∧Below w.heap.size w w':=by
 have HP:=hid hp;clear hp
 go_enter func96,ntmps96
 go_wp2_with fail
 refine(Tryz.strconv_FormatInt_10 n h0 h1 w HP.out).mono ?_;rintro e w1 ⟨rfl,k,os,hw1⟩;have hb1:Below w.heap.size w w1:=by rw[hw1];exact⟨rfl,rfl,rfl,by simp[grow,World.drewN],λj hj=>by simp[grow,World.drewN,Array.getElem?_append,hj]⟩
 clear hw1;obtain⟨t,ht⟩:∃t:ByteArray,t=⟨(Lib.itoa n).toArray⟩:=⟨_,rfl⟩;rw[← ht];have htl:=hid (show t.data.toList=Lib.itoa n from by rw[ht]);clear ht;have hts:t.size≤21:=by rw[ao htl.out];exact Lib.itoa_length_le n h0 h1
 have hw2:IntKind.i64.wrap ((d:Int)-(t.size:Int))=(d:Int)-(t.size:Int):=IntWalk.i64_in _ (by omega)
 go_wp2_with fail
 rw[show max (0:Int) ((d:Int)-(t.size:Int))=((d-t.size:Nat):Int)from by omega];refine(Tryz.strings_Repeat ⟨#[48]⟩ (d-t.size) w1 (by omega) (by show 1*(d-t.size)≤_;omega)).mono ?_;rintro e w2 ⟨rfl,hb2⟩;obtain⟨z,hz⟩:∃z:ByteArray,z=⟨(Lib.repeatL (⟨#[48]⟩:ByteArray).data.toList (d-t.size)).toArray⟩:=⟨_,rfl⟩;rw[← hz];have hzl:=hid (show z.data.toList=bT (d-t.size)from by rw[hz];exact bU _);clear hz;have hzs:z.size≤100:=by rw[ao hzl.out];unfold bT;rw[List.length_replicate];omega
 have hcat:z.size+t.size≤9223372036854775807:=by omega
 have HB:=hid (hb1.trans (hb2.mono hb1.size));clear hb1 hb2;go_wp2;go_ret;refine⟨⟨z++t,?_,rfl⟩,HB.out⟩;have e1:(z++t).data.toList=z.data.toList++t.data.toList:=by simp
 rw[e1,hzl.out,htl.out];unfold bV;rw[← htl.out,ak]
theorem bZ (w:World)(f:Int):Calls prog 89 #[.int .i64 f] w λe w'=>e = .returned (.bool (bW f))∧w=w':=by
 by_cases h0:0≤f
 ·by_cases h1:f≤1048576
  ·go_enter func89,ntmps89
   go_wp2;go_ret;exact⟨ay (by unfold bW;simp[h0,h1]),rfl⟩
  ·go_enter func89,ntmps89
   go_wp2;go_ret;exact⟨ay (by unfold bW;simp[h1]),rfl⟩
 ·go_enter func89,ntmps89
  go_wp2;go_ret;exact⟨ay (by unfold bW;simp;omega),rfl⟩
def b9 (g f:Int):List UInt8:=if 0≤g∧g≤99999999∧0≤f∧f≤1048576 then 115::(bV g 8++45::bV f 10) else []
theorem cf (w:World)(hp:Pow w)(g f:Int) :
  Calls prog 37 #[.int .i64 g,.int .i64 f] w λe w'=>(∃r:ByteArray,r.data.toList=b9 g f∧e = .returned (.string r))∧Below w.heap.size w w':=by
 have HP:=hid hp;clear hp;by_cases h0:g<0
 ·have hE:=hid (show b9 g f=[]from by unfold b9;rw[if_neg (by omega)])
  go_enter func37,ntmps37
  go_wp2;go_ret;exact⟨⟨⟨#[]⟩,by rw[hE.out],rfl⟩,Below.refl _ _⟩
 ·by_cases h1:99999999<g
  ·have hE:=hid (show b9 g f=[]from by unfold b9;rw[if_neg (by omega)])
   go_enter func37,ntmps37
   go_wp2;go_ret;exact⟨⟨⟨#[]⟩,by rw[hE.out],rfl⟩,Below.refl _ _⟩
  ·cases hn:bW f
   ·have hE:=hid (show b9 g f=[]from by unfold b9;rw[if_neg (by unfold bW at hn;simp at hn;omega)])
    go_enter func37,ntmps37
    go_wp2_with fail
    refine(bZ _ f).mono ?_;rintro e w1 ⟨rfl,rfl⟩;rw[hn];go_wp2;go_ret;exact⟨⟨⟨#[]⟩,by rw[hE.out],rfl⟩,Below.refl _ _⟩
   ·have hf:0≤f∧f≤1048576:=by unfold bW at hn;simp at hn;exact hn
    obtain⟨hf0,hf1⟩:=hf;have hE:=hid (show b9 g f=115::(bV g 8++45::bV f 10)from by unfold b9;rw[if_pos ⟨by omega,by omega,hf0,hf1⟩])
    go_enter func37,ntmps37
    go_wp2_with fail
    refine(bZ _ f).mono ?_;rintro e w1 ⟨rfl,rfl⟩;rw[hn]
    go_wp2_with fail
    refine(bY w HP.out g (by omega) (by omega) 8 (by omega)).mono ?_;rintro e w1 ⟨⟨r1,hr1,rfl⟩,hb1⟩;have hl1:r1.size≤29:=by rw[ao hr1];exact bX g 8 (by omega) (by omega)
    have HR1:=hid hr1;clear hr1;have hq1:(⟨#[115]⟩:ByteArray).size+r1.size≤9223372036854775807:=by show 1+r1.size≤_;omega
    have hq1':1+r1.size≤9223372036854775807:=by omega
    go_wp2_with fail
    refine(bY w1 (bS hb1 HP.out) f (by omega) (by omega) 10 (by omega)).mono ?_;rintro e w2 ⟨⟨r2,hr2,rfl⟩,hb2⟩;have hl2:r2.size≤31:=by rw[ao hr2];exact bX f 10 (by omega) (by omega)
    have HR2:=hid hr2;have HB:=hid (hb1.trans (hb2.mono hb1.size));have hq2:1+r1.size+1+r2.size≤9223372036854775807:=by omega
    clear hr2 hb1 hb2;go_wp2;go_ret;refine⟨⟨_,?_,rfl⟩,HB.out⟩;rw[hE.out,← HR1.out,← HR2.out];simp
theorem ci (w:World)(o1 o2:Obj):Below w.heap.size w ((w.alloc o1).alloc o2):=((Below.refl _ _).alloc (Nat.le_refl _) _).alloc (by simp) _
def cj (q:Int):Nat→Int→bI→Int
 | _,at',[]=>at'
 | k,at',(_,f)::r=>cj q (k+1) (if f≤q then (k:Int) else at') r
def ck (l:bI)(q:Int):Int:=cj q 0 (-1) l
theorem cm {q a:Int}{l:bI}{k:Nat}(hk:k<l.length):cj q k a (l.drop k)=cj q (k+1) (if l[k].2≤q then (k:Int) else a) (l.drop (k+1)):=by
 rw[List.drop_eq_getElem_cons hk];rfl
theorem co (w:World)(g:Int)(sv:Value)(l:bI)(hs:bJ w sv l)(hl:l.length≤1099511627776)(q:Int) :
  Calls prog 154 #[.agg #[.int .i64 g,sv],.int .i64 q] w λe w'=>e = .returned (.int .i64 (ck l q))∧Below w.heap.size w w':=by
 obtain⟨a,c,rfl⟩:=hs.shape;have HS:=hid hs;clear hs
 go_enter func154,ntmps154
 go_wp2
 go_loopw [5,11] (λx i wr=>∃(k:Nat) (at':Int),k≤l.length∧i = .int .i64 k∧x = .int .i64 at'∧ck l q=cj q k at' (l.drop k)∧Below (w.heap.size+1) (w.alloc (.cells #[.int .i64 g,.slice a l.length c] 42)) wr) (λ_ i _=>l.length-(intOf i).toNat)
 case atStart=>exact⟨0,-1,by omega,rfl,rfl,rfl,Below.refl _ _⟩
 case round=>
  obtain⟨k,at',hk,rfl,rfl,hok,hb⟩:=hrel;have HOK:=hid hok;clear hok;have hsz:=hb.size;simp at hsz;by_cases hlt:k<l.length
  ·have HST:=hid (cm (q:=q) (a:=at') hlt)
   obtain⟨b,o,rfl,h1,h2,hbl⟩:=HS.out.at k hlt;have hc1:wr.cell? ⟨b,o+k*2,none⟩=some (.int .i64 l[k].1):=by rw[hb.cell (by show b<_;omega),World.cell?_alloc_past _ _ _ hbl];exact h1
   have hc2:wr.cell? ⟨b,o+k*2+1,none⟩=some (.int .i64 l[k].2):=by rw[hb.cell (by show b<_;omega),World.cell?_alloc_past _ _ _ hbl];exact h2
   clear h1 h2;by_cases hF:l[k].2≤q
   ·have hgo:=hid (HOK.out.trans (HST.out.trans (by rw[if_pos hF])))
    generalize l[k].1=A at *
    generalize l[k].2=F at *
    go_wp2
    go_roundw
    case rel=>exact⟨k+1,k,by omega,by go_num,rfl,hgo.out,hb.alloc (by omega) _⟩
    case measure=>simp[intOf];omega
   ·have hgo:=hid (HOK.out.trans (HST.out.trans (by rw[if_neg hF])))
    generalize l[k].1=A at *
    generalize l[k].2=F at *
    go_wp2
    go_roundw
    case rel=>exact⟨k+1,at',by omega,by go_num,rfl,hgo.out,hb.alloc (by omega) _⟩
    case measure=>simp[intOf];omega
  ·have HE:=hid (show ck l q=at' from by rw[HOK.out,List.drop_eq_nil_of_le (by omega)];rfl)
   go_wp2;go_ret;exact⟨aa HE.out.symm,ax hb⟩
theorem ct (w:World)(sa sb:Value)(x y:bI)(hx:bJ w sa x)(hy:bJ w sb y)(hlx:x.length≤1099511627776)(hly:y.length≤1099511627776) :
  Calls prog 103 #[sa,sb] w λe w'=>e = .returned (.bool (x == y))∧Below w.heap.size w w':=by
 obtain⟨a,c,rfl⟩:=hx.shape;obtain⟨b,d,rfl⟩:=hy.shape;have HX:=hid hx;have HY:=hid hy;clear hx hy;by_cases hl:x.length=y.length
 ·go_enter func103,ntmps103
  go_wp2
  go_loopw [13] (λi wr=>∃k:Nat,k≤x.length∧i = .int .i64 k∧x.take k=y.take k∧Below w.heap.size w wr) (λi _=>x.length-(intOf i).toNat)
  case atStart=>exact⟨0,by omega,rfl,rfl,Below.refl _ _⟩
  case round=>
   obtain⟨k,hk,rfl,ht,hb⟩:=hrel;have HT:=hid ht;clear ht;by_cases hlt:k<x.length
   ·have hlt2:k<y.length:=by omega
    obtain⟨b1,o1,rfl,h1,h2,hbl1⟩:=HX.out.at k hlt;obtain⟨b2,o2,rfl,h3,h4,hbl2⟩:=HY.out.at k hlt2;have c1:=(hb.cell (p:=⟨b1,o1+k*2,none⟩) hbl1).trans h1;have c2:=(hb.cell (p:=⟨b1,o1+k*2+1,none⟩) hbl1).trans h2;have c3:=(hb.cell (p:=⟨b2,o2+k*2,none⟩) hbl2).trans h3;have c4:=(hb.cell (p:=⟨b2,o2+k*2+1,none⟩) hbl2).trans h4;clear h1 h2 h3 h4;by_cases e1:x[k].1=y[k].1
    ·by_cases e2:x[k].2=y[k].2
     ·have hn:=hid (show x.take (k+1)=y.take (k+1)from by rw[List.take_succ_eq_append_getElem hlt,List.take_succ_eq_append_getElem hlt2,HT.out,show x[k]=y[k]from Prod.ext e1 e2])
      go_wp2
      go_region
      go_wp2
      go_roundw
      case rel=>exact⟨k+1,by omega,by go_num,hn.out,hb.drew⟩
      case measure=>simp[intOf];omega
     ·have hne:=hid (show(x == y)=false from by
       cases e:x == y
       ·rfl
       ·have:=eq_of_beq e;subst this;exact absurd rfl e2)
      go_wp2
      go_region
      go_wp2;go_ret;exact⟨ay hne.out.symm,hb.drew⟩
    ·have hne:=hid (show(x == y)=false from by
      cases e:x == y
      ·rfl
      ·have:=eq_of_beq e;subst this;exact absurd rfl e1)
     go_wp2
     go_region
     go_wp2;go_ret;exact⟨ay hne.out.symm,hb.drew⟩
   ·have heq:=hid (show(x == y)=true from by
     have h1:=HT.out;rw[show k=x.length from by omega,List.take_length,hl,List.take_length]at h1;rw[h1];simp)
    go_wp2;go_ret;exact⟨ay heq.out.symm,hb⟩
 ·have hne:(x == y)=false:=by
   cases e:x == y
   ·rfl
   ·exact absurd (by rw[eq_of_beq e]) hl
  go_enter func103,ntmps103
  go_wp2;go_ret;exact⟨ay hne.symm,Below.refl _ _⟩
theorem cv (w:World)(g h:Int)(sa sb:Value)(x y:bI)(hx:bJ w sa x)(hy:bJ w sb y)(hlx:x.length≤1099511627776)(hly:y.length≤1099511627776) :
  Calls prog 43 #[.agg #[.int .i64 g,sa],.agg #[.int .i64 h,sb]] w λe w'=>e = .returned (.bool (decide (g=h) && x == y))∧Below w.heap.size w w':=by
 have hbz:=ci w (.cells #[.int .i64 g,sa] 42) (.cells #[.int .i64 h,sb] 42);have HX:=hid (hx.pure hbz);have HY:=hid (hy.pure hbz);have HB:=hid hbz;clear hx hy hbz;by_cases hg:g=h
 ·subst hg
  go_enter func43,ntmps43
  go_wp2_with fail
  refine(ct _ sa sb x y HX.out HY.out hlx hly).mono ?_;rintro e w1 ⟨rfl,hb1⟩;have HB1:=hid (HB.out.trans (hb1.mono (by simp;omega)));clear hb1;go_wp2;go_ret;exact⟨ay (by simp),HB1.out⟩
 ·go_enter func43,ntmps43
  go_wp2;go_ret;exact⟨ay (by simp[hg]),HB.out⟩
def cw (n:Int):Int:=if n<1∨64<n then 0 else 18+16*n
theorem cx (w:World)(n:Int)(h0 : -9223372036854775808≤n)(h1:n≤9223372036854775807) :
  Calls prog 107 #[.int .i64 n] w λe w'=>e = .returned (.int .i64 (cw n))∧w=w':=by
 by_cases ha:n<1
 ·have HS:=hid (show cw n=0 from by unfold cw;rw[if_pos (.inl ha)])
  go_enter func107,ntmps107
  go_wp2;go_ret;exact⟨aa HS.out.symm,rfl⟩
 ·by_cases hb:64<n
  ·have HS:=hid (show cw n=0 from by unfold cw;rw[if_pos (.inr hb)])
   go_enter func107,ntmps107
   go_wp2;go_ret;exact⟨aa HS.out.symm,rfl⟩
  ·have HS:=hid (show cw n=18+16*n from by unfold cw;rw[if_neg (by omega)])
   go_enter func107,ntmps107
   go_wp2;go_ret;exact⟨aa HS.out.symm,rfl⟩
end
end Go.Proofs.YthjjgcfdhkhelaaGreatDoor
namespace Go.Proofs
section
open Go.Shelf Tryz
def Tryz.lays99_ren:Go.Shelf.Ren:=⟨fun|99=>174|206=>257|n=>n,fun|9=>9|4=>4|3=>3|n=>n,fun|n=>n⟩
theorem Tryz.lays99:Go.Proofs.Lays.n99 prog Tryz.lays99_ren:={
 mixed:=by kernel_rfl
 f99:=qz func174
 f206:=qz func257
 t3:=underlying3
 a3:=isAgg3
 z3:=sizeOf3
 v3:=zeroValue3
 t4:=underlying4
 a4:=isAgg4
 z4:=sizeOf4
 v4:=zeroValue4
 t9:=underlying9
 a9:=isAgg9
 z9:=sizeOf9
 v9:=zeroValue9 }
open Go.RowKit Go.Lib in
theorem Tryz.strings_HasPrefix (s p:ByteArray)(w:World) :
  Calls prog 174 #[.string s,.string p] w λe w'=>e = .returned (.bool (Lib.hasPrefix s.data.toList p.data.toList))∧w'=w:=Any.strings_HasPrefix Tryz.lays99 s p w
def Tryz.lays110_ren:Go.Shelf.Ren:=⟨fun|110=>35|109=>94|n=>n,fun|31=>70|9=>9|4=>4|3=>3|0=>0|n=>n,fun|n=>n⟩
theorem Tryz.lays110:Go.Proofs.Lays.n110 prog Tryz.lays110_ren:={
 mixed:=by kernel_rfl
 f109:=qz func94
 f110:=qz func35
 t0:=underlying0
 a0:=isAgg0
 z0:=sizeOf0
 v0:=zeroValue0
 t3:=underlying3
 a3:=isAgg3
 z3:=sizeOf3
 v3:=zeroValue3
 t4:=underlying4
 a4:=isAgg4
 z4:=sizeOf4
 v4:=zeroValue4
 t9:=underlying9
 a9:=isAgg9
 z9:=sizeOf9
 v9:=zeroValue9
 t31:=underlying70
 a31:=isAgg70
 z31:=sizeOf70
 v31:=zeroValue70 }
open Go.Lib in
theorem Tryz.slices_Contains_string (b off n c:Nat)(zs:List ByteArray)(x:ByteArray)(w:World)(hz:n≤zs.length)(hbig:n≤9223372036854775807)(hc:∀j,j<zs.length→w.cell? ⟨b,off+j,none⟩=some (.string (zs.getD j ByteArray.empty))) :
  Calls prog 35 #[.slice (some ⟨b,off,none⟩) n c,.string x] w λe w'=>e = .returned (.bool (Lib.containsS (zs.take n) x))∧w'=w:=Any.slices_Contains_string Tryz.lays110 b off n c zs x w hz hbig hc
open Go.Lib in
theorem Tryz.slices_Contains_string_empty (a:Option Addr)(c:Nat)(x:ByteArray)(w:World) :
  Calls prog 35 #[.slice a 0 c,.string x] w λe w'=>e = .returned (.bool false)∧w'=w:=Any.slices_Contains_string_empty Tryz.lays110 a c x w
end
end Go.Proofs
namespace Go.Proofs.YthjjgcfdhkhelaaGreatDoor
section
open Go.RowKit
def kb (c:UInt8):Prop:=48≤c.toNat∧c.toNat≤57
theorem kd (d:Nat)(h:d<10):(UInt8.ofNat (48+d)).toNat=48+d:=by simp;omega
theorem ke (M:Nat)(hM:M≤18446744073709551615):∀u,∀r:List UInt8,u≤M→Lib.parseUintM M 0 (Lib.decDigits u++r)=Lib.parseUintM M u r:=by
 intro u
 induction u using Nat.strongRecOn with
 | _ u ih=>
  intro r hu;rw[Lib.decDigits]
  split
  ·rename_i h
   have:=kd u h;simp only[List.singleton_append,Lib.parseUintM,this];rw[if_pos (by omega),if_neg (by omega),if_neg (by omega)];congr 1;omega
  ·rename_i h
   have:=kd (u % 10) (by omega);rw[List.append_assoc];rw[ih (u / 10) (by omega) _ (by omega)];simp only[List.singleton_append,Lib.parseUintM,this];rw[if_pos (by omega),if_neg (by omega),if_neg (by omega)];congr 1;omega
theorem kf (M:Nat)(r:List UInt8)(k:Nat):Lib.parseUintM M 0 (bT k++r)=Lib.parseUintM M 0 r:=by
 induction k with
 | zero=>rfl
 | succ k ih=>
  unfold bT at ih ⊢;rw[List.replicate_succ,List.cons_append,Lib.parseUintM];rw[if_pos (by decide),if_neg (by decide),if_neg (by show ¬M<0*10+(48-48);omega)];exact ih
theorem kh (u:Nat):∀c∈Lib.decDigits u,kb c:=by
 induction u using Nat.strongRecOn with
 | _ u ih=>
  rw[Lib.decDigits]
  split
  ·rename_i h
   intro c hc;rw[List.mem_singleton]at hc;subst hc;unfold kb;rw[kd u h];omega
  ·rename_i h
   intro c hc
   rcases List.mem_append.1 hc with hc|hc
   ·exact ih (u / 10) (by omega) c hc
   ·rw[List.mem_singleton]at hc
    subst hc;unfold kb;rw[kd (u % 10) (by omega)];omega
theorem ki (u d:Nat)(h:u<10 ^ (d+1)):(Lib.decDigits u).length≤d+1:=by
 induction d generalizing u with
 | zero=>rw[Lib.decDigits,dif_pos (by omega)];simp
 | succ d ih=>
  rw[Lib.decDigits]
  split
  ·simp
  ·have:=ih (u / 10) (by rw[Nat.pow_succ]at h;omega)
   rw[List.length_append,List.length_singleton];omega
theorem kj (u:Nat):Lib.decDigits u≠[]:=by
 rw[Lib.decDigits];split<;>simp
theorem kk (u d:Nat):bV (u:Int) d=bT (d-(Lib.decDigits u).length)++Lib.decDigits u:=by
 unfold bV;rw[Lib.itoa_nonneg]
theorem km (u d:Nat):∀c∈bV (u:Int) d,kb c:=by
 intro c hc;rw[kk]at hc
 rcases List.mem_append.1 hc with hc|hc
 ·unfold bT at hc
  rw[List.mem_replicate]at hc;rw[hc.2];unfold kb;decide
 ·exact kh u c hc
theorem ko (u d:Nat):bV (u:Int) d≠[]:=by
 rw[kk];intro e;exact kj u (List.append_eq_nil_iff.1 e).2
theorem kp (u d:Nat)(h:u<10 ^ (d+1)):(bV (u:Int) (d+1)).length=d+1:=by
 have:=ki u d h;rw[kk,List.length_append];unfold bT;rw[List.length_replicate];omega
theorem kt (u d:Nat)(hu:u<9223372036854775808):Lib.parseIntB 64 (bV (u:Int) d) = .ok (u:Int):=by
 have hp:Lib.parseUintM (2 ^ 64-1) 0 (bV (u:Int) d) = .ok u:=by
  rw[kk,kf];have:=ke (2 ^ 64-1) (by decide) u [] (by omega);rw[List.append_nil]at this;rw[this];rfl
 have hne:=ko u d;have hd:=km u d;cases e:bV (u:Int) d with
 | nil=>exact absurd e hne
 | cons c r=>
  rw[e]at hp hd;have hc:=hd c (by simp);unfold kb at hc;unfold Lib.parseIntB;simp only;rw[if_neg (by omega)];unfold Lib.parseUintB;rw[if_neg (by simp),hp];simp only;rw[if_neg (by rintro⟨_,h⟩;omega),if_neg (by rintro⟨h,_⟩;omega),if_neg (by omega)]
theorem ku (A B:List UInt8)(h:∀c∈A,kb c):Lib.index (A++45::B) [45]=A.length:=by
 refine Lib.index_first (by simp) ?_ ?_
 ·unfold Lib.occAt;simp
 ·intro j hj
  unfold Lib.occAt;rw[List.drop_append_of_le_length (by omega)];have e:A.drop j=A[j]::A.drop (j+1):=(List.getElem_cons_drop ..).symm;rw[e,List.cons_append];have:=h A[j] (List.getElem_mem _);unfold kb at this;show((45:UInt8) == A[j] && List.isPrefixOf [] _)=false;rw[show((45:UInt8) == A[j])=false from by
   rw[beq_eq_false_iff_ne];intro e2;rw[← e2]at this;exact absurd this (by decide)]
  rfl
theorem kw (A B:List UInt8)(h:∀c∈A,kb c):Lib.cut (A++45::B) [45]=(A,B,true):=by
 unfold Lib.cut;rw[ku A B h,if_pos (by omega)];simp
theorem ky (g f:Nat)(hg:g≤99999999)(hf:f≤1048576):b9 (g:Int) (f:Int)=115::(bV (g:Int) 8++45::bV (f:Int) 10):=by
 unfold b9;rw[if_pos (by omega)]
theorem kz (r:List UInt8):Lib.trimPrefix (115::r) [115]=r:=by
 unfold Lib.trimPrefix Lib.hasPrefix;simp
theorem kA (g f:Nat)(hg:g≤99999999)(hf:f≤1048576):(b9 (g:Int) (f:Int)).length=20:=by
 rw[ky g f hg hf,List.length_cons,List.length_append,List.length_cons,kp g 7 (by omega),kp f 9 (by omega)]
end
end Go.Proofs.YthjjgcfdhkhelaaGreatDoor
namespace Go.Proofs
section
open Go.Shelf Tryz
def Tryz.lays145_ren:Go.Shelf.Ren:=⟨fun|145=>180|220=>260|219=>317|217=>390|225=>391|224=>392|267=>393|266=>447|314=>448|n=>n,fun|9=>9|4=>4|59=>258|3=>3|5=>5|46=>246|146=>351|51=>182|n=>n,fun|1=>1|n=>n⟩
theorem Tryz.lays145:Go.Proofs.Lays.n145 prog Tryz.lays145_ren:={
 mixed:=by kernel_rfl
 f145:=qz func180
 f217:=qz func390
 f219:=qz func317
 f220:=qz func260
 f224:=qz func392
 f225:=qz func391
 f266:=qz func447
 f267:=qz func393
 f314:=qz func448
 t3:=underlying3
 a3:=isAgg3
 z3:=sizeOf3
 v3:=zeroValue3
 t4:=underlying4
 a4:=isAgg4
 z4:=sizeOf4
 v4:=zeroValue4
 t5:=underlying5
 a5:=isAgg5
 z5:=sizeOf5
 v5:=zeroValue5
 t9:=underlying9
 a9:=isAgg9
 z9:=sizeOf9
 v9:=zeroValue9
 t46:=underlying246
 a46:=isAgg246
 z46:=sizeOf246
 v46:=zeroValue246
 t51:=underlying182
 a51:=isAgg182
 z51:=sizeOf182
 v51:=zeroValue182
 t59:=underlying258
 a59:=isAgg258
 z59:=sizeOf258
 v59:=zeroValue258
 t146:=underlying351
 a146:=isAgg351
 z146:=sizeOf351
 v146:=zeroValue351
 g1:=by kernel_rfl }
open Go.RowKit Go.Lib in
theorem Tryz.strings_Cut (s sep:ByteArray)(m:Int)(w:World)(hs:s.size<4294967281)(hm:w.cell? ⟨1,0,none⟩=some (.int .i64 m)) :
  Calls prog 180 #[.string s,.string sep] w λe w'=>e = .returned (.tuple #[.string ⟨(Lib.cut s.data.toList sep.data.toList).1.toArray⟩,.string ⟨(Lib.cut s.data.toList sep.data.toList).2.1.toArray⟩,.bool (Lib.cut s.data.toList sep.data.toList).2.2])∧∃n,w'=w.drewN n:=Any.strings_Cut Tryz.lays145 s sep m w hs hm
def Tryz.lays101_ren:Go.Shelf.Ren:=⟨fun|101=>181|208=>261|206=>257|n=>n,fun|9=>9|4=>4|3=>3|n=>n,fun|n=>n⟩
theorem Tryz.lays101:Go.Proofs.Lays.n101 prog Tryz.lays101_ren:={
 mixed:=by kernel_rfl
 f101:=qz func181
 f206:=qz func257
 f208:=qz func261
 t3:=underlying3
 a3:=isAgg3
 z3:=sizeOf3
 v3:=zeroValue3
 t4:=underlying4
 a4:=isAgg4
 z4:=sizeOf4
 v4:=zeroValue4
 t9:=underlying9
 a9:=isAgg9
 z9:=sizeOf9
 v9:=zeroValue9 }
open Go.RowKit Go.Lib in
theorem Tryz.strings_TrimPrefix (s p:ByteArray)(w:World) :
  Calls prog 181 #[.string s,.string p] w λe w'=>e = .returned (.string ⟨(Lib.trimPrefix s.data.toList p.data.toList).toArray⟩)∧w'=w:=Any.strings_TrimPrefix Tryz.lays101 s p w
def Tryz.laysC174_ren:Go.Shelf.Ren:=⟨fun|174=>182|247=>262|245=>263|287=>318|279=>319|280=>320|281=>321|282=>322|321=>394|322=>395|316=>396|171=>398|205=>397|243=>449|246=>172|283=>251|284=>252|285=>253|286=>254|129=>311|317=>310|318=>312|319=>313|320=>314|337=>388|338=>389|n=>n,fun|9=>9|3=>3|2=>2|75=>254|85=>260|4=>4|167=>410|5=>5|53=>184|175=>411|46=>246|168=>413|37=>178|0=>0|210=>472|21=>21|127=>355|145=>535|143=>533|171=>346|173=>349|212=>404|51=>182|20=>20|213=>405|232=>530|233=>531|80=>113|n=>n,fun|15=>2|16=>3|17=>0|18=>7|19=>8|n=>n⟩
theorem Tryz.laysC174:Go.Proofs.LaysC.n174 prog Tryz.laysC174_ren:={
 mixed:=by kernel_rfl
 f129:=qz func311
 f171:=qz func398
 f174:=qz func182
 f205:=qz func397
 f243:=qz func449
 f245:=qz func263
 f246:=qz func172
 f247:=qz func262
 f279:=qz func319
 f280:=qz func320
 f281:=qz func321
 f282:=qz func322
 f283:=qz func251
 f284:=qz func252
 f285:=qz func253
 f286:=qz func254
 f287:=qz func318
 f316:=qz func396
 f317:=qz func310
 f318:=qz func312
 f319:=qz func313
 f320:=qz func314
 f321:=qz func394
 f322:=qz func395
 f337:=qz func388
 f338:=qz func389
 t0:=underlying0
 a0:=isAgg0
 z0:=sizeOf0
 v0:=zeroValue0
 t2:=underlying2
 a2:=isAgg2
 z2:=sizeOf2
 v2:=zeroValue2
 t3:=underlying3
 a3:=isAgg3
 z3:=sizeOf3
 v3:=zeroValue3
 t4:=underlying4
 a4:=isAgg4
 z4:=sizeOf4
 v4:=zeroValue4
 t5:=underlying5
 a5:=isAgg5
 z5:=sizeOf5
 v5:=zeroValue5
 t9:=underlying9
 a9:=isAgg9
 z9:=sizeOf9
 v9:=zeroValue9
 t20:=underlying20
 a20:=isAgg20
 z20:=sizeOf20
 v20:=zeroValue20
 t21:=underlying21
 a21:=isAgg21
 z21:=sizeOf21
 v21:=zeroValue21
 t37:=underlying178
 a37:=isAgg178
 z37:=sizeOf178
 v37:=zeroValue178
 t46:=underlying246
 a46:=isAgg246
 z46:=sizeOf246
 v46:=zeroValue246
 t51:=underlying182
 a51:=isAgg182
 z51:=sizeOf182
 v51:=zeroValue182
 t53:=underlying184
 a53:=isAgg184
 z53:=sizeOf184
 v53:=zeroValue184
 t75:=underlying254
 a75:=isAgg254
 z75:=sizeOf254
 v75:=zeroValue254
 t85:=underlying260
 a85:=isAgg260
 z85:=sizeOf260
 v85:=zeroValue260
 t127:=underlying355
 a127:=isAgg355
 z127:=sizeOf355
 v127:=zeroValue355
 t143:=underlying533
 a143:=isAgg533
 z143:=sizeOf533
 v143:=zeroValue533
 t145:=underlying535
 a145:=isAgg535
 z145:=sizeOf535
 v145:=zeroValue535
 t167:=underlying410
 a167:=isAgg410
 z167:=sizeOf410
 v167:=zeroValue410
 t168:=underlying413
 a168:=isAgg413
 z168:=sizeOf413
 v168:=zeroValue413
 t171:=underlying346
 a171:=isAgg346
 z171:=sizeOf346
 v171:=zeroValue346
 t173:=underlying349
 a173:=isAgg349
 z173:=sizeOf349
 v173:=zeroValue349
 t175:=underlying411
 a175:=isAgg411
 z175:=sizeOf411
 v175:=zeroValue411
 t210:=underlying472
 a210:=isAgg472
 z210:=sizeOf472
 v210:=zeroValue472
 t212:=underlying404
 a212:=isAgg404
 z212:=sizeOf404
 v212:=zeroValue404
 t213:=underlying405
 a213:=isAgg405
 z213:=sizeOf405
 t232:=underlying530
 a232:=isAgg530
 z232:=sizeOf530
 v232:=zeroValue530
 t233:=underlying531
 a233:=isAgg531
 z233:=sizeOf531
 v233:=zeroValue531
 g15:=by kernel_rfl
 g16:=by kernel_rfl
 g17:=by kernel_rfl
 g18:=by kernel_rfl
 g19:=by kernel_rfl
 t80:=underlying113
 a80:=isAgg113
 z80:=sizeOf113
 v80:=zeroValue113
 i0:=by kernel_rfl
 i2:=by kernel_rfl
 i3:=by kernel_rfl
 i4:=by kernel_rfl
 i5:=by kernel_rfl
 i9:=by kernel_rfl
 i20:=by kernel_rfl
 i21:=by kernel_rfl
 i37:=by kernel_rfl
 i46:=by kernel_rfl
 i51:=by kernel_rfl
 i53:=by kernel_rfl
 i75:=by kernel_rfl
 i80:=by kernel_rfl
 i85:=by kernel_rfl
 i127:=by kernel_rfl
 i143:=by kernel_rfl
 i145:=by kernel_rfl
 i167:=by kernel_rfl
 i168:=by kernel_rfl
 i171:=by kernel_rfl
 i173:=by kernel_rfl
 i175:=by kernel_rfl
 i210:=by kernel_rfl
 i212:=by kernel_rfl
 i232:=by kernel_rfl
 i233:=by kernel_rfl
 m15:=by kernel_rfl
 m16:=by kernel_rfl
 m17:=by kernel_rfl
 m18:=by kernel_rfl
 m19:=by kernel_rfl
 c0:=by kernel_rfl
 c2:=by kernel_rfl
 c3:=by kernel_rfl
 c4:=by kernel_rfl
 c5:=by kernel_rfl
 c9:=by kernel_rfl
 c20:=by kernel_rfl
 c21:=by kernel_rfl
 c37:=by kernel_rfl
 c46:=by kernel_rfl
 c51:=by kernel_rfl
 c53:=by kernel_rfl
 c75:=by kernel_rfl
 c80:=by kernel_rfl
 c85:=by kernel_rfl
 c127:=by kernel_rfl
 c143:=by kernel_rfl
 c145:=by kernel_rfl
 c167:=by kernel_rfl
 c168:=by kernel_rfl
 c171:=by kernel_rfl
 c173:=by kernel_rfl
 c175:=by kernel_rfl
 c210:=by kernel_rfl
 c212:=by kernel_rfl
 c213:=by kernel_rfl
 c232:=by kernel_rfl
 c233:=by kernel_rfl }
end
end Go.Proofs
namespace Go.Proofs.YthjjgcfdhkhelaaGreatDoor
section
open Go.RowKit Go.Shelf
def Mxl (w:World):Prop:=∃m:Int,w.cell? ⟨1,0,none⟩=some (.int .i64 m)
theorem Fr.mxl {S:Nat→Prop}{w w':World}(hf:Fr S w w')(h:Mxl w)(hs:¬S 1):Mxl w':=by
 obtain⟨m,h⟩:=h;exact⟨m,hf.cellAt h hs⟩
theorem vL (s:ByteArray)(u d:Nat)(hs:s.data.toList=bV (u:Int) d)(hu:u<9223372036854775808)(hz:s.size≤9223372036854775806)(w:World) :
  Calls prog 182 #[.string s,.int .i64 10,.int .i64 64] w λe w'=>e = .returned (.tuple #[.int .i64 (u:Int),.nilIface])∧Below w.heap.size w w':=by
 refine(Any.strconv_ParseInt_10_at64_ok Tryz.laysC174 s hz (u:Int) (by rw[hs];exact kt u d hu) w).mono ?_;rintro e w' ⟨he,h⟩;refine⟨he,?_⟩
 rcases h with rfl|⟨t,rfl⟩
 ·exact Below.refl _ _
 ·exact Joins.below_bytesWorld _ _ _ _ (Nat.le_refl _)
theorem vM (w:World)(hp:Pow w)(hm:Mxl w)(g f:Nat)(hg:g≤99999999)(hf:f≤1048576)(s:ByteArray)(hs:s.data.toList=b9 (g:Int) (f:Int)) :
  Calls prog 137 #[.string s] w λe w'=>e = .returned (.tuple #[.int .i64 (g:Int),.int .i64 (f:Int),.bool true])∧Below w.heap.size w w':=by
 obtain⟨mx,hmx⟩:=hm;have HP:=hid hp;have HS:=hid hs;have HE:=hid (ky g f hg hf);have hsz:s.size=20:=by rw[ao hs];exact kA g f hg hf
 clear hp hs
 go_enter func137,ntmps137
 go_wp2_with fail
 refine(Tryz.strings_TrimPrefix s ⟨#[115]⟩ w).mono ?_;rintro e w1 ⟨rfl,rfl⟩;obtain⟨t,ht⟩:∃t:ByteArray,t=⟨(Lib.trimPrefix s.data.toList (⟨#[115]⟩:ByteArray).data.toList).toArray⟩:=⟨_,rfl⟩;rw[← ht];have htl:t.data.toList=bV (g:Int) 8++45::bV (f:Int) 10:=by
  rw[ht];show(Lib.trimPrefix s.data.toList [115]).toArray.toList=_;rw[HS.out,HE.out,kz]
 have HT:=hid htl;have htz:t.size=19:=by rw[ao htl,List.length_append,List.length_cons,kp g 7 (by omega),kp f 9 (by omega)]
 clear ht htl
 go_wp2_with fail
 refine(Tryz.strings_Cut t ⟨#[45]⟩ mx w1 (by omega) hmx).mono ?_;rintro e w2 ⟨rfl,nd,rfl⟩;rw[show(⟨#[45]⟩:ByteArray).data.toList=[45]from rfl,HT.out,kw _ _ (km g 8)];obtain⟨a,ha⟩:∃a:ByteArray,a=⟨(bV (g:Int) 8).toArray⟩:=⟨_,rfl⟩;obtain⟨b,hb⟩:∃b:ByteArray,b=⟨(bV (f:Int) 10).toArray⟩:=⟨_,rfl⟩;rw[← ha,← hb];have HA:=hid (show a.data.toList=bV (g:Int) 8 from by rw[ha]);have HB:=hid (show b.data.toList=bV (f:Int) 10 from by rw[hb]);have haz:a.size=8:=by rw[ao HA.out];exact kp g 7 (by omega)
 have hbz:b.size=10:=by rw[ao HB.out];exact kp f 9 (by omega)
 clear ha hb
 go_wp2_with fail
 refine(vL a g 8 HA.out (by omega) (by omega) _).mono ?_;rintro e w3 ⟨rfl,hb3⟩;have B3:=hid (show Below w1.heap.size w1 w3 from⟨hb3.os,hb3.tape,hb3.output,hb3.size,hb3.block⟩);clear hb3
 go_wp2_with fail
 refine(vL b f 10 HB.out (by omega) (by omega) _).mono ?_;rintro e w4 ⟨rfl,hb4⟩;have B4:=hid (B3.out.trans (hb4.mono B3.out.size));clear hb4
 go_wp2_with fail
 refine(cf w4 (bS B4.out HP.out) (g:Int) (f:Int)).mono ?_;rintro e w5 ⟨⟨r,hr,rfl⟩,hb5⟩;have B5:=hid (B4.out.trans (hb5.mono B4.out.size));have heq:(r.toList == s.toList)=true:=ar (by rw[hr,HS.out]);have hne:(r.toList != s.toList)=false:=by unfold bne;rw[heq];rfl
 clear hb5 hr;go_wp2
 go_ret3
 exact⟨rfl,B5.out⟩
end
section
open Go.RowKit
def vF:Nat→List UInt8→Nat
 | n,[]=>n
 | n,c::r=>vF (n*10+(c.toNat-48)) r
theorem mN (a b:List UInt8):∀n,vF n (a++b)=vF (vF n a) b:=by
 induction a with
 | nil=>intro n;rfl
 | cons c r ih=>intro n;exact ih _
theorem mO (u:Nat):vF 0 (Lib.decDigits u)=u:=by
 induction u using Nat.strongRecOn with
 | _ u ih=>
  rw[Lib.decDigits]
  split
  ·rename_i h
   show 0*10+((UInt8.ofNat (48+u)).toNat-48)=u;rw[kd u h];omega
  ·rename_i h
   rw[mN,ih (u / 10) (by omega)];show u / 10*10+((UInt8.ofNat (48+u % 10)).toNat-48)=u;rw[kd (u % 10) (by omega)];omega
theorem mP (k:Nat)(r:List UInt8):vF 0 (bT k++r)=vF 0 r:=by
 induction k with
 | zero=>rfl
 | succ k ih=>
  unfold bT at ih ⊢;rw[List.replicate_succ,List.cons_append];exact ih
theorem mQ (u d:Nat):vF 0 (bV (u:Int) d)=u:=by rw[kk,mP,mO]
def p10:Nat→Nat
 | 0=>1
 | k+1=>10*p10 k
theorem mR (a k:Nat):a*p10 (k+1)=(a*10)*p10 k:=by
 show a*(10*p10 k)=_;rw[Nat.mul_assoc]
theorem mS:∀(l:List UInt8) (n:Nat),n*p10 l.length≤vF n l
 | [],n=>Nat.le_of_eq (Nat.mul_one n)
 | c::r,n=>by
  have h:=mS r (n*10+(c.toNat-48));have e:vF n (c::r)=vF (n*10+(c.toNat-48)) r:=rfl;have h2:(n*10)*p10 r.length≤(n*10+(c.toNat-48))*p10 r.length:=Nat.mul_le_mul_right _ (Nat.le_add_right _ _);rw[e,List.length_cons,mR];exact Nat.le_trans h2 h
theorem mT:∀(l:List UInt8),(∀c∈l,kb c)→∀n,vF n l<(n+1)*p10 l.length
 | [],_,n=>by
  rw[List.length_nil];show n<(n+1)*1;omega
 | c::r,hd,n=>by
  have hc:=hd c (by simp);unfold kb at hc;have h:=mT r (λx hx=>hd x (by simp[hx])) (n*10+(c.toNat-48));have e:vF n (c::r)=vF (n*10+(c.toNat-48)) r:=rfl;have h2:(n*10+(c.toNat-48)+1)*p10 r.length≤((n+1)*10)*p10 r.length:=Nat.mul_le_mul_right _ (by omega);rw[e,List.length_cons,mR];exact Nat.lt_of_lt_of_le h h2
end
end Go.Proofs.YthjjgcfdhkhelaaGreatDoor
