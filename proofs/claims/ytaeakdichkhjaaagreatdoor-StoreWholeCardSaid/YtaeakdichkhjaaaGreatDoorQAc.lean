/- The walks of state.named, and of what it asks, where there are none. -/
import Derived.Test.YtaeakdichkhjaaaGreatDoorQAb
import Derived.RangeFuncFrom
import Derived.Test.YtaeakdichkhjaaaGreatDoorQAa
import Derived.Test.YtaeakdichkhjaaaGreatDoorChecked
import Derived.Test.YtaeakdichkhjaaaGreatDoorShelf
set_option maxHeartbeats 1000000
open Go.Lib(hid)
namespace Go.Proofs.YtaeakdichkhjaaaGreatDoor
section
open Go.RowKit
theorem ct {s:List UInt8}{k most:Nat}{b:UInt8}(h:s[k]?=some b)(hb:b.toNat<128)(hm:b.toNat≤most):(⟨k,0,0⟩:RdSt).short s most=(b.toNat,⟨k+1,0,0⟩):=by
 have hlt:k<s.length:=by
  rw[List.getElem?_eq_some_iff]at h;exact h.1
 have hg:s[k]=b:=by
  rw[List.getElem?_eq_some_iff]at h;exact h.2
 have hs:s.drop (⟨k,0,0⟩:RdSt).at_=bE b.toNat++s.drop (k+1):=by
  rw[bF hb];show s.drop k=_;rw[List.drop_eq_getElem_cons hlt,hg];simp
 have:=bS (st:=⟨k,0,0⟩) (most:=most) rfl (by omega) hm hs;rw[this,bF hb];rfl
structure RdrAt (w:World) (q p:Nat) (s:ByteArray) (st:RdSt):Prop where
 cell:w.heap[q]?=some (.cells #[.pointer (some ⟨p,0,none⟩),.int .i64 (s.size:Int),.bool false] 191 (0,0))
 rd:IsRd w p s st
 ne:q≠p
theorem RdrAt.kept {S:Nat→Prop}{w w':World}{q p:Nat}{s:ByteArray}{st:RdSt}(h:RdrAt w q p s st)(hf:Fr S w w')(hq:¬S q)(hp:¬S p):RdrAt w' q p s st:=⟨hf.heapAt h.cell hq,h.rd.kept hf hp,h.ne⟩
theorem RdrAt.pure {w w':World}{q p:Nat}{s:ByteArray}{st:RdSt}(h:RdrAt w q p s st)(hb:Below w.heap.size w w'):RdrAt w' q p s st:=h.kept (Fr.pure (S:=λ_=>False) hb) (λh=>h) (λh=>h)
theorem RdrAt.cs {w:World}{q p:Nat}{s:ByteArray}{st:RdSt}(h:RdrAt w q p s st):w.cell? ⟨q,0,none⟩=some (.pointer (some ⟨p,0,none⟩))∧w.cell? ⟨q,1,none⟩=some (.int .i64 (s.size:Int))∧w.cell? ⟨q,2,none⟩=some (.bool false):=by
 refine⟨?_,?_,?_⟩<;>rw[cell_of_row w q _ _ _ _ h.cell]<;>rfl
theorem RdrAt.size {w:World}{q p:Nat}{s:ByteArray}{st:RdSt}(h:RdrAt w q p s st):w.cell? ⟨q,1,none⟩=some (.int .i64 (s.size:Int)):=h.cs.2.1
theorem cw (w:World)(q p:Nat)(s:ByteArray)(st:RdSt)(h:RdrAt w q p s st)(n:Nat)(hn:n≤9223372036854775807) :
  Calls Tryz.prog 149 #[.pointer (some ⟨q,0,none⟩),.int .i64 (n:Int)] w λe w'=>e = .returned (.int .i64 (wrap64 ((st.short s.data.toList n).1:Int)))∧RdrAt w' q p s (st.short s.data.toList n).2∧Fr (λk=>k=p) w w':=by
 obtain⟨c0,c1,c2⟩:=h.cs;have H:=hid h;clear h
 go_enter Tryz.func149,Tryz.ntmps149
 go_wp2_with fail
 refine(cm w p s st H.out.rd n).mono ?_;rintro e w1 ⟨rfl,h1,hf1⟩;have H1:=hid (show RdrAt w1 q p s (st.short s.data.toList n).2 from⟨hf1.heapAt H.out.cell H.out.ne,h1,H.out.ne⟩);clear h1;go_wp2;go_ret;exact⟨rfl,H1.out,hf1⟩
theorem cx (w:World)(q p:Nat)(s:ByteArray)(st:RdSt)(h:RdrAt w q p s st) :
  Calls Tryz.prog 140 #[.pointer (some ⟨q,0,none⟩)] w λe w'=>e = .returned (.int .i64 (wrap64 ((st.short s.data.toList 4611686018427387904).1:Int)))∧RdrAt w' q p s (st.short s.data.toList 4611686018427387904).2∧Fr (λk=>k=p) w w':=by
 obtain⟨c0,c1,c2⟩:=h.cs;have H:=hid h;clear h
 go_enter Tryz.func140,Tryz.ntmps140
 go_wp2_with fail
 refine(cm w p s st H.out.rd 4611686018427387904).mono ?_;rintro e w1 ⟨rfl,h1,hf1⟩;have H1:=hid (show RdrAt w1 q p s (st.short s.data.toList 4611686018427387904).2 from⟨hf1.heapAt H.out.cell H.out.ne,h1,H.out.ne⟩);clear h1;go_wp2;go_ret;exact⟨rfl,H1.out,hf1⟩
theorem cy (w:World)(q p:Nat)(s:ByteArray)(k:Nat)(b:UInt8)(h:RdrAt w q p s ⟨k,0,0⟩)(h0:s.data.toList[k]?=some b)(hb:b.toNat<128) :
  Calls Tryz.prog 140 #[.pointer (some ⟨q,0,none⟩)] w λe w'=>e = .returned (.int .i64 (b.toNat:Int))∧RdrAt w' q p s ⟨k+1,0,0⟩∧Fr (λk=>k=p) w w':=by
 refine(cx w q p s _ h).mono ?_;rw[ct h0 hb (by omega)];have hw:wrap64 (b.toNat:Int)=(b.toNat:Int):=by
  have h9:((b.toNat:Nat):Int)<128:=by omega
  unfold wrap64;omega
 rw[hw];exact λe w1 h=>h
theorem cz:wrap64 (((0:UInt8).toNat:Nat):Int)=0:=by
 rw[show(((0:UInt8).toNat:Nat):Int)=0 from rfl];unfold wrap64;omega
theorem cA (fv:Value)(w:World)(q p:Nat)(s:ByteArray)(k:Nat)(h:RdrAt w q p s ⟨k,0,0⟩)(h0:s.data.toList[k]?=some 0) :
  Calls Tryz.prog 141 #[.pointer (some ⟨q,0,none⟩),fv] w λe w'=>e = .returned (.slice none 0 0)∧RdrAt w' q p s ⟨k+1,0,0⟩∧Fr (λk=>k=p) w w':=by
 have hsz:=h.size;have hss:=h.rd.2.2;have H:=hid h;have HQ:=hid (ct (k:=k) (most:=s.size) h0 (by decide) (by simp));clear h h0
 go_enter Tryz.func141,Tryz.ntmps141
 go_wp2_with fail
 refine(cw w q p s _ H.out s.size (by omega)).mono ?_;rintro e w1 ⟨rfl,h1,hf1⟩;rw[HQ.out]at h1 ⊢;rw[cz];have H1:=hid h1;clear h1;go_wp2
 go_loopw [5,15] (λl i wr=>l = .slice none 0 0∧i = .int .i64 0∧wr=w1) (λ_ _ _=>0)
 case atStart=>exact⟨rfl,rfl,rfl⟩
 case round=>
  obtain⟨rfl,rfl,rfl⟩:=hrel;go_wp2;go_ret;exact⟨rfl,H1.out,hf1⟩
theorem cB (fv:Value)(w:World)(q p:Nat)(s:ByteArray)(k:Nat)(h:RdrAt w q p s ⟨k,0,0⟩)(h0:s.data.toList[k]?=some 0) :
  Calls Tryz.prog 145 #[.pointer (some ⟨q,0,none⟩),fv] w λe w'=>e = .returned (.slice none 0 0)∧RdrAt w' q p s ⟨k+1,0,0⟩∧Fr (λk=>k=p) w w':=by
 have hsz:=h.size;have hss:=h.rd.2.2;have H:=hid h;have HQ:=hid (ct (k:=k) (most:=s.size) h0 (by decide) (by simp));clear h h0
 go_enter Tryz.func145,Tryz.ntmps145
 go_wp2_with fail
 refine(cw w q p s _ H.out s.size (by omega)).mono ?_;rintro e w1 ⟨rfl,h1,hf1⟩;rw[HQ.out]at h1 ⊢;rw[cz];have H1:=hid h1;clear h1;go_wp2
 go_loopw [5,15] (λl i wr=>l = .slice none 0 0∧i = .int .i64 0∧wr=w1) (λ_ _ _=>0)
 case atStart=>exact⟨rfl,rfl,rfl⟩
 case round=>
  obtain⟨rfl,rfl,rfl⟩:=hrel;go_wp2;go_ret;exact⟨rfl,H1.out,hf1⟩
theorem cC (fv:Value)(w:World)(q p:Nat)(s:ByteArray)(k:Nat)(h:RdrAt w q p s ⟨k,0,0⟩)(h0:s.data.toList[k]?=some 0) :
  Calls Tryz.prog 147 #[.pointer (some ⟨q,0,none⟩),fv] w λe w'=>e = .returned (.slice none 0 0)∧RdrAt w' q p s ⟨k+1,0,0⟩∧Fr (λk=>k=p) w w':=by
 have hsz:=h.size;have hss:=h.rd.2.2;have H:=hid h;have HQ:=hid (ct (k:=k) (most:=s.size) h0 (by decide) (by simp));clear h h0
 go_enter Tryz.func147,Tryz.ntmps147
 go_wp2_with fail
 refine(cw w q p s _ H.out s.size (by omega)).mono ?_;rintro e w1 ⟨rfl,h1,hf1⟩;rw[HQ.out]at h1 ⊢;rw[cz];have H1:=hid h1;clear h1;go_wp2
 go_loopw [5,15] (λl i wr=>l = .slice none 0 0∧i = .int .i64 0∧wr=w1) (λ_ _ _=>0)
 case atStart=>exact⟨rfl,rfl,rfl⟩
 case round=>
  obtain⟨rfl,rfl,rfl⟩:=hrel;go_wp2;go_ret;exact⟨rfl,H1.out,hf1⟩
theorem cD (fv:Value)(w:World)(q p:Nat)(s:ByteArray)(k:Nat)(h:RdrAt w q p s ⟨k,0,0⟩)(h0:s.data.toList[k]?=some 0) :
  Calls Tryz.prog 151 #[.pointer (some ⟨q,0,none⟩),fv] w λe w'=>e = .returned (.slice none 0 0)∧RdrAt w' q p s ⟨k+1,0,0⟩∧Fr (λk=>k=p) w w':=by
 have hsz:=h.size;have hss:=h.rd.2.2;have H:=hid h;have HQ:=hid (ct (k:=k) (most:=s.size) h0 (by decide) (by simp));clear h h0
 go_enter Tryz.func151,Tryz.ntmps151
 go_wp2_with fail
 refine(cw w q p s _ H.out s.size (by omega)).mono ?_;rintro e w1 ⟨rfl,h1,hf1⟩;rw[HQ.out]at h1 ⊢;rw[cz];have H1:=hid h1;clear h1;go_wp2
 go_loopw [5,15] (λl i wr=>l = .slice none 0 0∧i = .int .i64 0∧wr=w1) (λ_ _ _=>0)
 case atStart=>exact⟨rfl,rfl,rfl⟩
 case round=>
  obtain⟨rfl,rfl,rfl⟩:=hrel;go_wp2;go_ret;exact⟨rfl,H1.out,hf1⟩
theorem cE (fv:Value)(w:World)(q p:Nat)(s:ByteArray)(k:Nat)(h:RdrAt w q p s ⟨k,0,0⟩)(h0:s.data.toList[k]?=some 0) :
  Calls Tryz.prog 154 #[.pointer (some ⟨q,0,none⟩),fv] w λe w'=>e = .returned (.slice none 0 0)∧RdrAt w' q p s ⟨k+1,0,0⟩∧Fr (λk=>k=p) w w':=by
 have hsz:=h.size;have hss:=h.rd.2.2;have H:=hid h;have HQ:=hid (ct (k:=k) (most:=s.size) h0 (by decide) (by simp));clear h h0
 go_enter Tryz.func154,Tryz.ntmps154
 go_wp2_with fail
 refine(cw w q p s _ H.out s.size (by omega)).mono ?_;rintro e w1 ⟨rfl,h1,hf1⟩;rw[HQ.out]at h1 ⊢;rw[cz];have H1:=hid h1;clear h1;go_wp2
 go_loopw [5,15] (λl i wr=>l = .slice none 0 0∧i = .int .i64 0∧wr=w1) (λ_ _ _=>0)
 case atStart=>exact⟨rfl,rfl,rfl⟩
 case round=>
  obtain⟨rfl,rfl,rfl⟩:=hrel;go_wp2;go_ret;exact⟨rfl,H1.out,hf1⟩
theorem cF (fv:Value)(w:World)(q p:Nat)(s:ByteArray)(k:Nat)(h:RdrAt w q p s ⟨k,0,0⟩)(h0:s.data.toList[k]?=some 0) :
  Calls Tryz.prog 158 #[.pointer (some ⟨q,0,none⟩),fv] w λe w'=>e = .returned (.slice none 0 0)∧RdrAt w' q p s ⟨k+1,0,0⟩∧Fr (λk=>k=p) w w':=by
 have hsz:=h.size;have hss:=h.rd.2.2;have H:=hid h;have HQ:=hid (ct (k:=k) (most:=s.size) h0 (by decide) (by simp));clear h h0
 go_enter Tryz.func158,Tryz.ntmps158
 go_wp2_with fail
 refine(cw w q p s _ H.out s.size (by omega)).mono ?_;rintro e w1 ⟨rfl,h1,hf1⟩;rw[HQ.out]at h1 ⊢;rw[cz];have H1:=hid h1;clear h1;go_wp2
 go_loopw [5,15] (λl i wr=>l = .slice none 0 0∧i = .int .i64 0∧wr=w1) (λ_ _ _=>0)
 case atStart=>exact⟨rfl,rfl,rfl⟩
 case round=>
  obtain⟨rfl,rfl,rfl⟩:=hrel;go_wp2;go_ret;exact⟨rfl,H1.out,hf1⟩
theorem cG (fv:Value)(w:World)(q p:Nat)(s:ByteArray)(k:Nat)(h:RdrAt w q p s ⟨k,0,0⟩)(h0:s.data.toList[k]?=some 0) :
  Calls Tryz.prog 160 #[.pointer (some ⟨q,0,none⟩),fv] w λe w'=>e = .returned (.slice none 0 0)∧RdrAt w' q p s ⟨k+1,0,0⟩∧Fr (λk=>k=p) w w':=by
 have hsz:=h.size;have hss:=h.rd.2.2;have H:=hid h;have HQ:=hid (ct (k:=k) (most:=s.size) h0 (by decide) (by simp));clear h h0
 go_enter Tryz.func160,Tryz.ntmps160
 go_wp2_with fail
 refine(cw w q p s _ H.out s.size (by omega)).mono ?_;rintro e w1 ⟨rfl,h1,hf1⟩;rw[HQ.out]at h1 ⊢;rw[cz];have H1:=hid h1;clear h1;go_wp2
 go_loopw [5,15] (λl i wr=>l = .slice none 0 0∧i = .int .i64 0∧wr=w1) (λ_ _ _=>0)
 case atStart=>exact⟨rfl,rfl,rfl⟩
 case round=>
  obtain⟨rfl,rfl,rfl⟩:=hrel;go_wp2;go_ret;exact⟨rfl,H1.out,hf1⟩
theorem cH (fv:Value)(w:World)(q p:Nat)(s:ByteArray)(k:Nat)(h:RdrAt w q p s ⟨k,0,0⟩)(h0:s.data.toList[k]?=some 0) :
  Calls Tryz.prog 162 #[.pointer (some ⟨q,0,none⟩),fv] w λe w'=>e = .returned (.slice none 0 0)∧RdrAt w' q p s ⟨k+1,0,0⟩∧Fr (λk=>k=p) w w':=by
 have hsz:=h.size;have hss:=h.rd.2.2;have H:=hid h;have HQ:=hid (ct (k:=k) (most:=s.size) h0 (by decide) (by simp));clear h h0
 go_enter Tryz.func162,Tryz.ntmps162
 go_wp2_with fail
 refine(cw w q p s _ H.out s.size (by omega)).mono ?_;rintro e w1 ⟨rfl,h1,hf1⟩;rw[HQ.out]at h1 ⊢;rw[cz];have H1:=hid h1;clear h1;go_wp2
 go_loopw [5,15] (λl i wr=>l = .slice none 0 0∧i = .int .i64 0∧wr=w1) (λ_ _ _=>0)
 case atStart=>exact⟨rfl,rfl,rfl⟩
 case round=>
  obtain⟨rfl,rfl,rfl⟩:=hrel;go_wp2;go_ret;exact⟨rfl,H1.out,hf1⟩
theorem cI (fv:Value)(w:World)(q p:Nat)(s:ByteArray)(k:Nat)(h:RdrAt w q p s ⟨k,0,0⟩)(h0:s.data.toList[k]?=some 0) :
  Calls Tryz.prog 164 #[.pointer (some ⟨q,0,none⟩),fv] w λe w'=>e = .returned (.slice none 0 0)∧RdrAt w' q p s ⟨k+1,0,0⟩∧Fr (λk=>k=p) w w':=by
 have hsz:=h.size;have hss:=h.rd.2.2;have H:=hid h;have HQ:=hid (ct (k:=k) (most:=s.size) h0 (by decide) (by simp));clear h h0
 go_enter Tryz.func164,Tryz.ntmps164
 go_wp2_with fail
 refine(cw w q p s _ H.out s.size (by omega)).mono ?_;rintro e w1 ⟨rfl,h1,hf1⟩;rw[HQ.out]at h1 ⊢;rw[cz];have H1:=hid h1;clear h1;go_wp2
 go_loopw [5,15] (λl i wr=>l = .slice none 0 0∧i = .int .i64 0∧wr=w1) (λ_ _ _=>0)
 case atStart=>exact⟨rfl,rfl,rfl⟩
 case round=>
  obtain⟨rfl,rfl,rfl⟩:=hrel;go_wp2;go_ret;exact⟨rfl,H1.out,hf1⟩
def cJ {β:Type}(own:Nat→Prop)(J:β→World→Prop):Prop:=∀s A B,J s A→Fr own A B→J s B
structure RgIn (n:Nat) (W W':World):Prop where
 de:W'.heap[n]?=W.heap[n]?
 lo:W'.heap[n+1]?=W.heap[n+1]?
theorem RgIn.refl (n:Nat)(W:World):RgIn n W W:=⟨rfl,rfl⟩
theorem RgIn.trans {n:Nat}{A B C:World}(h:RgIn n A B)(k:RgIn n B C):RgIn n A C:=⟨k.de.trans h.de,k.lo.trans h.lo⟩
theorem RgIn.fr {n:Nat}{S:Nat→Prop}{W W':World}(h:Fr S W W')(hn:n+1<W.heap.size)(h1:¬S n)(h2:¬S (n+1)):RgIn n W W':=⟨h.block n (by omega) h1,h.block (n+1) hn h2⟩
theorem Fr.putObj {S:Nat→Prop}{a b:World}(h:Fr S a b)(r:Nat)(hr:r<a.heap.size→S r)(o:Obj):Fr S a (b.putObj r o):=
 ⟨h.os,h.tape,h.output,by rw[World.putObj_size];exact h.size,λk hk hs=>(World.putObj_heap_other (λe=>hs (by rw[e];exact hr (by omega)))).trans (h.block k hk hs)⟩
variable {F:Fence} {n:Nat} {P:Program}
end
section
open Go.RowKit
theorem cK {n:Nat}(w:World)(o:Obj)(h:n=w.heap.size):(w.alloc o).heap[n]?=some o:=by subst h;exact heap_alloc_new _ _
theorem cL {F:Fence}(hd:F.depth=none)(k:Nat):F.room k:=λd h=>by rw[hd]at h;cases h
theorem RoundIn.anyDepth {F:Fence}(hd:F.depth=none){m m':Nat}{P:Program}{l:Nat}{f:FuncId}{tmps:Array Value}{assign body:Code}{w:World}{R:Ending→World→Prop}
  (h:RoundIn F m P l f tmps assign body w R):RoundIn F m' P l f tmps assign body w R:=⟨h.1,λc cs _=>h.2 c cs (cL hd _)⟩
theorem YieldAt.anyDepth {F:Fence}(hd:F.depth=none){m:Nat}(m':Nat){P:Program}{l:Nat}{args:Array Value}{W:World}{R:Ending→World→Prop}(h:YieldAt F m P l args W R):YieldAt F m' P l args W R:=by
 obtain⟨fn,tmps,assign,body,hy,hR⟩:=h;exact⟨fn,tmps,assign,body,hy,RoundIn.anyDepth hd hR⟩
theorem RoundIn.inRound {F:Fence}{m:Nat}{P:Program}{l l':Nat}{f:FuncId}{tmps:Array Value}{assign body:Code}{w:World}{R:Ending→World→Prop}(h:RoundIn F m P l f tmps assign body w R):RoundIn (F.inRound l') m P l f tmps assign body w R:=h
def cM {α:Type}(Q:α→Prop)(F:Fence)(n:Nat)(P:Program)(g:Nat)(lb:Array Value)(encs:α→Array Value)(own:Nat→Prop)(Kp Kx:World→World→Prop)(S Sp:List α→Prop)(N:Nat)(w:World):Prop:=
 ∀(l:Nat) (J Jx:List α→World→Prop) (W:World),Below w.heap.size w W→w.heap.size+1<W.heap.size→cJ own J→cJ own Jx →
  (∀pre x W1,Q x→J pre W1→pre.length<N→YieldAt F (n-1) P l (encs x) W1 λe W'=>
   (e = .returned (.bool true)∧J (pre++[x]) W'∧Kp W1 W')∨(e = .returned (.bool false)∧Jx (pre++[x]) W'∧Kx W1 W')) →
  J [] W →
  CallsIn F n P g (#[.func (.yield l) #[] #[]]++lb) W λe W'=>(∃v,e = .returned v)∧((∃xs,S xs∧J xs W')∨(∃pre,Sp pre∧Jx pre W'))
def cN {α:Type}(n:Nat)(Kp Kx:World→World→Prop)(I:List α→World→Prop)(Ix:Code→List α→World→Prop)(xs:List α)(W:World):Exit→Act→World→Prop
 | .normal,_,W'=>RgIn n W W'∧Kp W W'∧I xs W'
 | .ret,_,W'=>RgIn n W W'∧Kx W W'∧Ix .ret xs W'
 | .exit id,_,W'=>RgIn n W W'∧Kx W W'∧Ix (.exit id) xs W'
 | .goto t,_,W'=>RgIn n W W'∧Kx W W'∧Ix (.goto t) xs W'
 | .panic _,_,_=>False
 | .outgrown,_,_=>False
variable {F:Fence} {n:Nat} {P:Program}
theorem cO {α:Type}{g:Operand}{ps:Array Tmp}{assign body:Code}{Q:Exit→Act→World→Prop}{a:Act}{w:World}
  (hro:F.round=none) (h1:1≤n) {gf:Nat} {lb:Array Value} (hg:a.eval g = .func (.func gf) #[] lb) (hFg:F.fn gf) (eg:∀args w,(callFunc gf args).run P w = .ok (.enter gf args) w)
  {Qx:α→Prop} {encs:α→Array Value} {own:Nat→Prop} {Kp Kx:World→World→Prop} {S Sp:List α→Prop} {N:Nat} (hseq:cM Qx F (n-1) P gf lb encs own Kp Kx S Sp N w) (hown:¬own w.heap.size∧¬own (w.heap.size+1))
  (hKt:∀{A B C:World},Kp A B→Kp B C→Kp A C) (hKb:∀(W:World) (o:Obj),w.heap.size+1<W.heap.size→Kp W (W.putObj (w.heap.size+1) o)) (hKx:∀{A B C:World},Kp A B→Kx B C→Kx A C) (hKxb:∀(A W:World) (o:Obj),Kx A W→Kx A (W.putObj (w.heap.size+1) o)) (hps:∀x,(encs x).size=ps.size)
  (I:List α→World→Prop) (Ix:Code→List α→World→Prop) (hI:cJ (λk=>own k∨k=w.heap.size∨k=w.heap.size+1) I) (hIx:∀c,cJ (λk=>own k∨k=w.heap.size∨k=w.heap.size+1) (Ix c)) (h0:I [] w)
  (A:List α→α→Act→World→Prop) (hA:∀pre x a' W o,w.heap.size+1<W.heap.size→A pre x a' W→A pre x a' (W.putObj (w.heap.size+1) o))
  (hassign:∀(pre:List α) (x:α) (W:World) (K:Act→World→Prop),Qx x→w.heap.size+1<W.heap.size→I pre W→(∀a' W',A pre x a' W'→RgIn w.heap.size W W'→W.heap.size≤W'.heap.size→Kp W W'→K a' W') →
   assign.wpIn (F.inRound (w.heap.size+1)) (n-1-1) P (Exit.then K (λ_ _ _=>False)) { tmps:=(ps.zip (encs x)).foldl (λt (p,v)=>t.setIfInBounds p v) a.tmps,defers:=[] } W)
  (hbody:∀(pre:List α) (x:α) (a':Act) (W:World),Qx x→w.heap.size+1<W.heap.size→A pre x a' W→pre.length<N→body.wpIn (F.inRound (w.heap.size+1)) (n-1-1) P (cN w.heap.size Kp Kx I Ix (pre++[x]) W) a' W)
  (hdone:∀(xs:List α) (W:World),S xs→I xs W→W.heap[w.heap.size]?=some (.deferred (some []))→Q .normal { a with defers:={ target:=.collected w.heap.size,args:=#[] }::a.defers } W)
  (hstop:∀(c:Code) (pre:List α) (W:World),Sp pre→Ix c pre W→W.heap[w.heap.size]?=some (.deferred (some []))→c.wpIn F n P Q { a with defers:={ target:=.collected w.heap.size,args:=#[] }::a.defers } W) :
  (Code.rangeFunc g ps assign body).wpIn F n P Q a w:=by
 refine wpIn_rangeFunc ?_;intro fn hfn;rw[hro];obtain⟨rec,hrec⟩:∃rec:LoopState→Option Code→Loop,rec=λst pe=>{ state:=st,pending:=pe,fn,tmps:=a.tmps,params:=ps,assign,body,defers:=w.heap.size }:=⟨_,rfl⟩;obtain⟨N0,hN0⟩:∃N0,N0=w.heap.size:=⟨_,rfl⟩;obtain⟨W1,hW1⟩:∃W1,(w.alloc (.deferred (some []))).alloc (.loop (rec .ready none))=W1:=⟨_,rfl⟩;have hL1:W1.heap[w.heap.size+1]?=some (.loop (rec .ready none)):=by
  rw[← hW1];have:=World.alloc_heap_new (w.alloc (.deferred (some []))) (.loop (rec .ready none));rwa [World.size_alloc]at this
 have hK1:W1.heap[w.heap.size]?=some (.deferred (some [])):=by
  rw[← hW1];exact(Below.heap_alloc _ _ _ (by simp)).trans (World.alloc_heap_new w _)
 have hf1:∀{S:Nat→Prop},Fr S w W1:=by intro S;rw[← hW1];exact((Fr.refl S w).alloc _).alloc _
 have hI1:I [] W1:=hI _ _ _ h0 hf1;have hb1:Below w.heap.size w W1:=by rw[← hW1];exact((Below.refl _ w).alloc (Nat.le_refl _) _).alloc (by simp) _
 have hturn:∀{β:Type} {J:β→World→Prop} (_:cJ (λk=>own k∨k=w.heap.size∨k=w.heap.size+1) J) (s:β) (W:World) (o:Obj),J s W→J s (W.putObj (w.heap.size+1) o):=
  λhJ s W o hs=>hJ s _ _ hs ((Fr.refl _ W).putObj _ (λ_=>.inr (.inr rfl)) o)
 have hkeep:∀{X Y:World} {k:Nat} {o:Obj},Fr own X Y→¬own k→X.heap[k]?=some o→Y.heap[k]?=some o:=
  λhf hk h=>(hf.block _ (lt_of_block h) hk).trans h
 refine⟨w.heap.size+1,[{ target:=.collected w.heap.size,args:=#[] }],W1,{ target:=.fn (.func gf) lb,args:=#[.func (.yield (w.heap.size+1)) #[] #[]] },W1,gf,
  #[.func (.yield (w.heap.size+1)) #[] #[]]++lb,W1,?_,?_,?_,?_,λ_=>h1,?_⟩
 ·rw[← hW1,hrec];exact run_enterLoop_outer _ _ _ _ _
 ·simp only[resolve,hg]
  simp[go_sem]
 ·intro f' hf';simp[Target.leads]at hf';subst hf';exact hFg
 ·simp[invoke,go_sem,eg]
 ·refine(hseq (w.heap.size+1)
   (λpre W=>I pre W∧W.heap[w.heap.size+1]?=some (.loop (rec .ready none))∧W.heap[w.heap.size]?=some (.deferred (some [])))
   (λpre W=>∃c,Ix c pre W∧W.heap[w.heap.size+1]?=some (.loop (rec .done (some c)))∧W.heap[w.heap.size]?=some (.deferred (some [])))
   W1 hb1 (lt_of_block hL1)
   (λs X Y hs hf=>⟨hI s X Y hs.1 (hf.mono (λ_ _ e=>.inl e)),hkeep hf hown.2 hs.2.1,hkeep hf hown.1 hs.2.2⟩)
   (λs X Y hs hf=>by
    obtain⟨c,hc,hl,hk⟩:=hs;exact⟨c,hIx c s X Y hc (hf.mono (λ_ _ e=>.inl e)),hkeep hf hown.2 hl,hkeep hf hown.1 hk⟩)
   ?_ ⟨hI1,hL1,hK1⟩).mono ?_
  ·rintro pre x W hqx ⟨hi,hl,hk⟩ hlen
   have hlt:w.heap.size+1<W.heap.size:=lt_of_block hl;have hy:=run_yield (P:=P) (args:=encs x) hl (by rw[hrec];exact hps x);rw[hrec]at hy;refine⟨fn,_,assign,body,hy,roundIn_of_wpIn hfn (hassign pre x W _ hqx hlt hi ?_)⟩;intro a' W2 hA2 hg2 hsz2 hkp2;have hl2:W2.heap[w.heap.size+1]?=some (.loop (rec .ready none)):=hg2.lo.trans hl;have hk2:W2.heap[w.heap.size]?=some (.deferred (some [])):=hg2.de.trans hk;have hlt2:w.heap.size+1<W2.heap.size:=by omega
   refine⟨_,run_beginRound hl2 (by rw[hrec]),?_⟩;have hl3:(W2.putObj (w.heap.size+1) (.loop { rec .ready none with state:=.busy })).heap[w.heap.size+1]?=some (.loop { rec .ready none with state:=.busy }):=World.putObj_heap_same hlt2;have hk3:(W2.putObj (w.heap.size+1) (.loop { rec .ready none with state:=.busy })).heap[w.heap.size]?=some (.deferred (some [])):=(World.putObj_heap_other (by omega)).trans hk2;have hkp3:Kp W (W2.putObj (w.heap.size+1) (.loop { rec .ready none with state:=.busy })):=hKt hkp2 (hKb _ _ hlt2);refine wpIn_mono (hbody pre x a' _ hqx (by rw[World.putObj_size];exact hlt2) (hA _ _ _ _ _ hlt2 hA2) hlen) ?_;have fin:∀(jump:Option Code) (W4:World),RgIn w.heap.size (W2.putObj (w.heap.size+1) (.loop { rec .ready none with state:=.busy })) W4 →
     (Instr.endRound (w.heap.size+1) jump).run P W4 = .ok (.bool jump.isNone) (W4.putObj (w.heap.size+1) (.loop (rec (if jump.isNone then .ready else .done) jump))) ∧
     w.heap.size+1<W4.heap.size ∧
     (W4.putObj (w.heap.size+1) (.loop (rec (if jump.isNone then .ready else .done) jump))).heap[w.heap.size+1]?=some (.loop (rec (if jump.isNone then .ready else .done) jump)) ∧
     (W4.putObj (w.heap.size+1) (.loop (rec (if jump.isNone then .ready else .done) jump))).heap[w.heap.size]?=some (.deferred (some [])):=λjump W4 hg4=>by
    have hl4:=hg4.lo.trans hl3;have hr:=run_endRound (P:=P) jump hl4;rw[hrec]at hr ⊢;exact⟨hr,lt_of_block hl4,World.putObj_heap_same (lt_of_block hl4),(World.putObj_heap_other (by omega)).trans (hg4.de.trans hk3)⟩
   rintro e a4 W4 hp;cases e with
   | normal=>
    obtain⟨hg4,hkp4,hi4⟩:=hp;obtain⟨hr,hlt4,hl5,hk5⟩:=fin none W4 hg4;exact⟨_,_,hr,.inl ⟨rfl,⟨hturn hI _ _ _ hi4,hl5,hk5⟩,hKt (hKt hkp3 hkp4) (hKb _ _ hlt4)⟩⟩
   | ret=>
    obtain⟨hg4,hkp4,hi4⟩:=hp;obtain⟨hr,hlt4,hl5,hk5⟩:=fin (some .ret) W4 hg4;exact⟨_,_,hr,.inr ⟨rfl,⟨.ret,hturn (hIx _) _ _ _ hi4,hl5,hk5⟩,hKxb _ _ _ (hKx hkp3 hkp4)⟩⟩
   | exit id=>
    obtain⟨hg4,hkp4,hi4⟩:=hp;obtain⟨hr,hlt4,hl5,hk5⟩:=fin (some (.exit id)) W4 hg4;exact⟨_,_,hr,.inr ⟨rfl,⟨.exit id,hturn (hIx _) _ _ _ hi4,hl5,hk5⟩,hKxb _ _ _ (hKx hkp3 hkp4)⟩⟩
   | goto t=>
    obtain⟨hg4,hkp4,hi4⟩:=hp;obtain⟨hr,hlt4,hl5,hk5⟩:=fin (some (.goto t)) W4 hg4;exact⟨_,_,hr,.inr ⟨rfl,⟨.goto t,hturn (hIx _) _ _ _ hi4,hl5,hk5⟩,hKxb _ _ _ (hKx hkp3 hkp4)⟩⟩
   | panic ch=>exact hp.elim
   | outgrown=>exact hp.elim
  ·rintro e W2 ⟨⟨v,rfl⟩,(⟨xs,hS,hi,hl,hk⟩|⟨pre,hSp,c,hi,hl,hk⟩)⟩
   ·exact⟨none,_,by have:=run_endLoop (P:=P) hl (by rw[hrec];simp);rw[hrec]at this;exact this,hdone xs _ hS (hturn hI _ _ _ hi) ((World.putObj_heap_other (by omega)).trans hk)⟩
   ·exact⟨some c,_,by have:=run_endLoop (P:=P) hl (by rw[hrec];simp);rw[hrec]at this;exact this,hstop c pre _ hSp (hturn (hIx c) _ _ _ hi) ((World.putObj_heap_other (by omega)).trans hk)⟩
end
section
open Go.RowKit
theorem cP (w:World)(fv:Value):Calls Tryz.prog 336 #[.slice none 0 0,fv] w λe w'=>e = .returned (.int .i64 (-1))∧w=w':=by
 go_enter Tryz.func336,Tryz.ntmps336
 go_wp2
 go_loopw [8] (λi wr=>i = .int .i64 0∧wr=w) (λ_ _=>0)
 case atStart=>exact⟨rfl,rfl⟩
 case round=>
  obtain⟨rfl,rfl⟩:=hrel;go_wp2;go_ret;exact⟨rfl,rfl⟩
theorem cQ (w:World)(fv:Value):Calls Tryz.prog 313 #[.slice none 0 0,fv] w λe w'=>e = .returned (.bool false)∧w=w':=by
 go_enter Tryz.func313,Tryz.ntmps313
 go_wp2_with fail
 refine(cP w fv).mono ?_;rintro e w1 ⟨rfl,rfl⟩;go_wp2;go_ret;exact⟨rfl,rfl⟩
theorem cR (w:World)(fv:Value):Calls Tryz.prog 322 #[.slice none 0 0,fv] w λe w'=>e = .returned (.int .i64 (-1))∧w=w':=by
 go_enter Tryz.func322,Tryz.ntmps322
 go_wp2
 go_loopw [8] (λi wr=>i = .int .i64 0∧wr=w) (λ_ _=>0)
 case atStart=>exact⟨rfl,rfl⟩
 case round=>
  obtain⟨rfl,rfl⟩:=hrel;go_wp2;go_ret;exact⟨rfl,rfl⟩
theorem cS (w:World)(fv:Value):Calls Tryz.prog 286 #[.slice none 0 0,fv] w λe w'=>e = .returned (.bool false)∧w=w':=by
 go_enter Tryz.func286,Tryz.ntmps286
 go_wp2_with fail
 refine(cR w fv).mono ?_;rintro e w1 ⟨rfl,rfl⟩;go_wp2;go_ret;exact⟨rfl,rfl⟩
theorem cT (w:World)(fv:Value):Calls Tryz.prog 326 #[.slice none 0 0,fv] w λe w'=>e = .returned (.int .i64 (-1))∧w=w':=by
 go_enter Tryz.func326,Tryz.ntmps326
 go_wp2
 go_loopw [8] (λi wr=>i = .int .i64 0∧wr=w) (λ_ _=>0)
 case atStart=>exact⟨rfl,rfl⟩
 case round=>
  obtain⟨rfl,rfl⟩:=hrel;go_wp2;go_ret;exact⟨rfl,rfl⟩
theorem cU (w:World)(fv:Value):Calls Tryz.prog 290 #[.slice none 0 0,fv] w λe w'=>e = .returned (.bool false)∧w=w':=by
 go_enter Tryz.func290,Tryz.ntmps290
 go_wp2_with fail
 refine(cT w fv).mono ?_;rintro e w1 ⟨rfl,rfl⟩;go_wp2;go_ret;exact⟨rfl,rfl⟩
theorem cV (w:World)(fv:Value):Calls Tryz.prog 329 #[.slice none 0 0,fv] w λe w'=>e = .returned (.int .i64 (-1))∧w=w':=by
 go_enter Tryz.func329,Tryz.ntmps329
 go_wp2
 go_loopw [8] (λi wr=>i = .int .i64 0∧wr=w) (λ_ _=>0)
 case atStart=>exact⟨rfl,rfl⟩
 case round=>
  obtain⟨rfl,rfl⟩:=hrel;go_wp2;go_ret;exact⟨rfl,rfl⟩
theorem cW (w:World)(fv:Value):Calls Tryz.prog 296 #[.slice none 0 0,fv] w λe w'=>e = .returned (.bool false)∧w=w':=by
 go_enter Tryz.func296,Tryz.ntmps296
 go_wp2_with fail
 refine(cV w fv).mono ?_;rintro e w1 ⟨rfl,rfl⟩;go_wp2;go_ret;exact⟨rfl,rfl⟩
theorem cX (w:World)(fv:Value):Calls Tryz.prog 269 #[.slice none 0 0,fv] w λe w'=>e = .returned (.int .i64 (-1))∧w=w':=by
 go_enter Tryz.func269,Tryz.ntmps269
 go_wp2
 go_loopw [8] (λi wr=>i = .int .i64 0∧wr=w) (λ_ _=>0)
 case atStart=>exact⟨rfl,rfl⟩
 case round=>
  obtain⟨rfl,rfl⟩:=hrel;go_wp2;go_ret;exact⟨rfl,rfl⟩
theorem cY (w:World)(fv:Value):Calls Tryz.prog 225 #[.slice none 0 0,fv] w λe w'=>e = .returned (.bool false)∧w=w':=by
 go_enter Tryz.func225,Tryz.ntmps225
 go_wp2_with fail
 refine(cX w fv).mono ?_;rintro e w1 ⟨rfl,rfl⟩;go_wp2;go_ret;exact⟨rfl,rfl⟩
end
section
open Go.RowKit Go.Sort Go.Shelf
theorem cZ (w:World):Calls Tryz.prog 127 #[.slice none 0 0] w λe w'=>e = .returned (.tuple #[])∧w'=w:=
 AnyM.slices_Sort_string_none Tryz.laysSlM6_f127 none 0 w
theorem db (w:World):Calls Tryz.prog 316 #[.slice none 0 0] w λe w'=>e = .returned (.slice none 0 0)∧w=w':=by
 go_enter Tryz.func316,Tryz.ntmps316
 go_wp2;go_ret;exact⟨rfl,rfl⟩
theorem dd (w:World):Calls Tryz.prog 317 #[.slice none 0 0] w λe w'=>e = .returned (.slice none 0 0)∧w=w':=by
 have hq:∀w,(binOp .eql 86 (.slice none 0 0) (.slice none 0 0)).run Tryz.prog w = .ok (.bool true) w:=λw=>by have:=Lib.run_eql_slice_nil (P:=Tryz.prog) w 86 _ none 0 0 0 0 Tryz.underlying86;exact this
 go_enter Tryz.func317,Tryz.ntmps317
 go_wp2;go_ret;exact⟨rfl,rfl⟩
theorem df (w:World):Calls Tryz.prog 282 #[.slice none 0 0] w λe w'=>e = .returned (.bool true)∧w=w':=by
 have hmf:∀(fn:Fn) (first cap:Array Value) (w:World),(Instr.makeFunc fn first cap).run Tryz.prog w = .ok (.func fn first cap) w:=λ_ _ _ _=>rfl
 go_enter Tryz.func282,Tryz.ntmps282
 go_wp2_with fail
 refine(cQ w _).mono ?_;rintro e w1 ⟨rfl,rfl⟩
 go_wp2_with fail
 refine(cZ w).mono ?_;rintro e w1 ⟨rfl,rfl⟩
 go_wp2_with fail
 refine(dd _).mono ?_;rintro e w1 ⟨rfl,rfl⟩
 go_wp2_with fail
 refine(db _).mono ?_;rintro e w1 ⟨rfl,rfl⟩;go_wp2;go_ret;exact⟨rfl,rfl⟩
end
end Go.Proofs.YtaeakdichkhjaaaGreatDoor
