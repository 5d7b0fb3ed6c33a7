/- Stores of structs of nine, and of four, cells. -/
import Derived.Test.YtaeakdichkhjaaaGreatDoorQAf
import Derived.Test.YtaeakdichkhjaaaGreatDoorQAc
import Derived.Deep.RegionWith
import Derived.Deep.RegionHeld3
import Derived.Test.YtaeakdichkhjaaaGreatDoorQAb
import Derived.Laws.EntriesVeiled
import Derived.Test.YtaeakdichkhjaaaGreatDoorShelfE
import Derived.Test.YtaeakdichkhjaaaGreatDoorQAa
import Derived.Deep.QuietTactic
import Derived.BigQuiet
import Derived.Test.YtaeakdichkhjaaaGreatDoorChecked
import Derived.Deep.LoopGhost
import Derived.Deep.Light
import Derived.Laws.CopyOwn
set_option maxHeartbeats 2000000
open Go.Lib(hid)
namespace Go.Proofs.YtaeakdichkhjaaaGreatDoor
section
open Go.RowKit
def gW (c:Nat):List UInt8:=[UInt8.ofNat c,0,1,1,0,0,0,0,0,0,0,0,0]
def gX (seq c:Nat):List UInt8:=gR seq (gW c)
abbrev sn3:List UInt8:=[110,48,48,48,48,48,48,48,48,48,51]
def seT:DkSt:=⟨[],1000,-1,false⟩
def seA:DkSt×Int:=gV seT 5 (gX 5 50,0)
def seB:DkSt×Int:=gV seA.1 9 (gX 9 90,0)
def seC:DkSt×Int:=ee seB.1 sn3
set_option maxRecDepth 100000 in
theorem gY:seA.2=0∧seB.2=0∧seC.2=0∧seC.1.dark=false:=by decide +kernel
set_option maxRecDepth 100000 in
theorem gZ:gd (seC.1.fs.map (·.name))=[3,5,9]:=by rw[← gq];decide +kernel
set_option maxRecDepth 100000 in
theorem g9:eG seC.1 (fN 3)=([],0)∧eG seC.1 (fN 5)=(gX 5 50,0):=by decide +kernel
def seK (cut:Int):DkSt×Int:=gV (eJ seT cut).1 5 (gX 5 50,0)
def seX (cut:Int):DkSt:=gF (seK cut).1 [99]
set_option maxRecDepth 100000 in
theorem hG:(eJ seT 2).2=0∧(eJ seT 3).2=0∧(eJ seT 4).2=0∧(seK 2).2≠0∧(seK 3).2≠0∧(seK 4).2=0:=by decide +kernel
set_option maxRecDepth 100000 in
theorem hU:eG (seX 2) (fN 5)=([],5)∧eG (seX 3) (fN 5)=([],5)∧eG (seX 4) (fN 5)=(gX 5 50,0):=by decide +kernel
structure GetAt (w W:World) (T:TypeId) (q p:Nat) (s:ByteArray) (st:RdSt) (n:Nat) (Z C:Array Value):Prop where
 rd:RdrAt W q p s st
 box:W.heap[n]?=some (.cells #[.pointer (some ⟨q,0,none⟩)] 189 (0,0))
 res:W.heap[n+1]?=some (.cells Z T (0,0))
 loc:W.heap[n+2]?=some (.cells C T (0,0))
 fr:Fr (λk=>k=p) w W
 hn:n=w.heap.size
 hp:p<n
 hq:q<n
theorem GetAt.step {w W W':World}{T:TypeId}{q p:Nat}{s:ByteArray}{st st':RdSt}{n:Nat}{Z C:Array Value}(h:GetAt w W T q p s st n Z C)(h1:RdrAt W' q p s st')(hf:Fr (λk=>k=p) W W'):GetAt w W' T q p s st' n Z C:=
 ⟨h1,hf.heapAt h.box (by have:=h.hp;omega),hf.heapAt h.res (by have:=h.hp;omega),hf.heapAt h.loc (by have:=h.hp;omega),h.fr.trans hf,h.hn,h.hp,h.hq⟩
theorem GetAt.set {w W:World}{T:TypeId}{q p:Nat}{s:ByteArray}{st:RdSt}{n:Nat}{Z C:Array Value}(h:GetAt w W T q p s st n Z C)(j:Nat)(v:Value):GetAt w (W.setCell ⟨n+2,j,none⟩ v) T q p s st n Z (C.setIfInBounds j v):=
 ⟨h.rd.kept (dF _ _) (by have:=h.hq;show ¬q=n+2;omega) (by have:=h.hp;show ¬p=n+2;omega),(dF _ _).heapAt h.box (by show ¬n=n+2;omega),(dF _ _).heapAt h.res (by show ¬n+1=n+2;omega),heap_setCell_same _ _ _ _ _ _ h.loc,h.fr.setCell ⟨n+2,j,none⟩ (λe=>by have:=h.hn;have:n+2<w.heap.size:=e;omega) v,h.hn,h.hp,h.hq⟩
theorem GetAt.setR {w W:World}{T:TypeId}{q p:Nat}{s:ByteArray}{st:RdSt}{n:Nat}{Z C:Array Value}(h:GetAt w W T q p s st n Z C)(j:Nat)(v:Value):GetAt w (W.setCell ⟨n+1,j,none⟩ v) T q p s st n (Z.setIfInBounds j v) C:=
 ⟨h.rd.kept (dF _ _) (by have:=h.hq;show ¬q=n+1;omega) (by have:=h.hp;show ¬p=n+1;omega),(dF _ _).heapAt h.box (by show ¬n=n+1;omega),heap_setCell_same _ _ _ _ _ _ h.res,(dF _ _).heapAt h.loc (by show ¬n+2=n+1;omega),h.fr.setCell ⟨n+1,j,none⟩ (λe=>by have:=h.hn;have:n+1<w.heap.size:=e;omega) v,h.hn,h.hp,h.hq⟩
theorem GetAt.drew {w W:World}{T:TypeId}{q p:Nat}{s:ByteArray}{st:RdSt}{n:Nat}{Z C:Array Value}(h:GetAt w W T q p s st n Z C):GetAt w W.drew T q p s st n Z C:=
 ⟨⟨h.rd.cell,h.rd.rd,h.rd.ne⟩,h.box,h.res,h.loc,h.fr.drew,h.hn,h.hp,h.hq⟩
theorem GetAt.b0 {w W:World}{T:TypeId}{q p:Nat}{s:ByteArray}{st:RdSt}{n:Nat}{Z C:Array Value}(h:GetAt w W T q p s st n Z C):W.cell? ⟨n,0,none⟩=some (.pointer (some ⟨q,0,none⟩)):=(cell_of_row _ _ _ _ _ _ h.box).trans rfl
theorem GetAt.at {w W:World}{T:TypeId}{q p:Nat}{s:ByteArray}{st:RdSt}{n:Nat}{Z C:Array Value}(h:GetAt w W T q p s st n Z C)(j:Nat)(v:Value)(e:C[j]?=some v):W.cell? ⟨n+2,j,none⟩=some v:=(cell_of_row _ _ _ _ _ _ h.loc).trans e
theorem GetAt.rs {w W:World}{T:TypeId}{q p:Nat}{s:ByteArray}{st:RdSt}{n:Nat}{Z C:Array Value}(h:GetAt w W T q p s st n Z C)(j:Nat)(v:Value)(e:Z[j]?=some v):W.cell? ⟨n+1,j,none⟩=some v:=(cell_of_row _ _ _ _ _ _ h.res).trans e
theorem GetAt.rz {w W:World}{T:TypeId}{q p:Nat}{s:ByteArray}{st:RdSt}{n:Nat}{Z C:Array Value}(h:GetAt w W T q p s st n Z C)(j:Nat):W.frozen? ⟨n+1,j,none⟩=false:=frozen_of_row _ _ j _ _ h.res
theorem GetAt.fz {w W:World}{T:TypeId}{q p:Nat}{s:ByteArray}{st:RdSt}{n:Nat}{Z C:Array Value}(h:GetAt w W T q p s st n Z C)(j:Nat):W.frozen? ⟨n+2,j,none⟩=false:=frozen_of_row _ _ j _ _ h.loc
theorem hZ (n:Nat)(p:Nat)(v:Value)(L:List UInt8)(w:World)(hn:n<256)(h:IsWr w p v L)(hL:L.length≤1073741824) :
  Calls Tryz.prog 182 #[.pointer (some ⟨p,0,none⟩),.int .u8 (n:Int)] w λe w'=>e = .returned (.tuple #[])∧∃v',WrTo p w w' v v' (L++[UInt8.ofNat n]):=by
 have H:=hid h;have HB:=hid (bG n hn);clear h
 go_enter Tryz.func182,Tryz.ntmps182
 go_wp2_with fail
 refine(bq n p v L _ H.out hL).mono ?_;rintro e w1 ⟨rfl,h1⟩;have H1:=hid h1;clear h1;go_wp2
 go_end0
 exact⟨rfl,by have:=H1.out;rw[HB.out]at this;exact this⟩
set_option maxRecDepth 100000 in
theorem ia (n:Nat)(p:Nat)(v:Value)(L:List UInt8)(w:World)(hn:n<18446744073709551616)(h:IsWr w p v L)(hL:L.length+10≤1073741824) :
  Calls Tryz.prog 235 #[.pointer (some ⟨p,0,none⟩),.int .u64 (n:Int)] w λe w'=>e = .returned (.tuple #[])∧∃v',WrTo p w w' v v' (L++bB n):=by
 have H:=hid h;have hl10:=bF n hn;clear h
 go_enter Tryz.func235,Tryz.ntmps235
 go_wp2
 go_loopw [1] (λx wr=>∃(m:Nat) (v1:Value) (L1:List UInt8),x = .int .u64 (m:Int)∧m<18446744073709551616∧Hid (WrTo p w wr v v1 L1)∧Hid (L1++bB m=L++bB n)) (λx _=>(intOf x).toNat)
 case atStart=>exact⟨n,v,L,rfl,hn,hid ⟨H.out,Fr.refl _ _,Went.refl _ _⟩,hid rfl⟩
 case round=>
  obtain⟨m,v1,L1,rfl,hm,HW,HE⟩:=hrel;have hl1:L1.length≤1073741824:=by
   have:=congrArg List.length HE.out;rw[List.length_append,List.length_append]at this;omega
  by_cases hs:m<128
  ·have HF:=hid (show L1++[UInt8.ofNat m]=L++bB n from by rw[← HE.out,bC hs])
   have hmm:(m:Int) % 256=(m:Int):=by omega
   go_wp2_with fail
   try rw[hmm]
   refine(hZ m p v1 L1 wr (by omega) HW.out.is hl1).mono ?_;rintro e w1 ⟨rfl,v2,h2⟩;have H2:=hid (HW.out.trans h2);clear h2;go_wp2
   go_end0
   exact⟨rfl,v2,by rw[← HF.out];exact H2.out⟩
  ·have HO:=hid (bH m)
   have HG:=hid (bI HE.out hs)
   go_wp2_with fail
   rw[HO.out];refine(hZ (m % 128+128) p v1 L1 wr (by omega) HW.out.is hl1).mono ?_;rintro e w1 ⟨rfl,v2,h2⟩;have H2:=hid (HW.out.trans h2);clear h2;go_wp2
   go_roundw
   case rel=>exact⟨m / 128,v2,_,by go_num,by omega,H2,HG⟩
   case measure=>simp[intOf];omega
theorem ib (s:ByteArray)(p:Nat)(v:Value)(L:List UInt8)(w:World)(h:IsWr w p v L)(hL:L.length+10+s.size≤1073741824) :
  Calls Tryz.prog 174 #[.pointer (some ⟨p,0,none⟩),.string s] w λe w'=>e = .returned (.tuple #[])∧∃v',WrTo p w w' v v' (L++(bB s.size++s.data.toList)):=by
 have H:=hid h;have hl10:=bF s.size (by omega);clear h
 go_enter Tryz.func174,Tryz.ntmps174
 go_wp2_with fail
 refine(ia s.size p v L w (by omega) H.out (by omega)).mono ?_;rintro e w1 ⟨rfl,v1,h1⟩;have H1:=hid h1;clear h1
 go_wp2_with fail
 refine(bu s p v1 _ w1 H1.out.is (by rw[List.length_append];omega)).mono ?_;rintro e w2 ⟨rfl,v2,h2⟩;have H2:=hid (H1.out.trans h2);clear h2;go_wp2
 go_end0
 exact⟨rfl,v2,by rw[← List.append_assoc];exact H2.out⟩
theorem ic (p:Nat)(v:Value)(L:List UInt8)(w:World)(h:IsWr w p v L) :
  Calls Tryz.prog 113 #[.pointer (some ⟨p,0,none⟩)] w λe w'=>e = .returned (.int .i64 (L.length:Int))∧w=w':=by
 have H:=hid h;clear h
 go_enter Tryz.func113,Tryz.ntmps113
 go_wp2_with fail
 refine(bA p v L w H.out).mono ?_;rintro e w1 ⟨r,hr,rfl,rfl⟩;have hz:r.size=L.length:=av hr;have HR:=hid hz;clear hr hz;go_wp2;go_ret;exact⟨by show Ending.returned (.int .i64 (r.size:Int))=_;rw[HR.out],rfl⟩
theorem WrTo.alloc {p:Nat}{w w1:World}{v v1:Value}{L:List UInt8}(h:WrTo p w w1 v v1 L)(o:Obj):WrTo p w (w1.alloc o) v v1 L:=
 ⟨h.is.kept (S:=λ_=>False) ((Fr.refl _ _).alloc o) (λhf=>hf) (λ_ _ hf=>hf),h.fr.alloc o,h.went⟩
theorem WrTo.start {p:Nat}{w:World}{v:Value}{L:List UInt8}(h:IsWr w p v L):WrTo p w w v v L:=⟨h,Fr.refl _ _,Went.refl _ _⟩
theorem IsWr.fresh (w:World):IsWr (w.alloc (.cells #[.slice none 0 0] 155)) w.heap.size (.slice none 0 0) []:=⟨heap_alloc_new _ _,World.ownsRow_nil _ _ _ _,by simp[Value.ownBlock]⟩
theorem WrTo.cell {p:Nat}{wa wr:World}{v:Value}{L:List UInt8}(h:WrTo p wa wr (.slice none 0 0) v L){b o:Nat}{x:Value}(hb:wa.cell? ⟨b,o,none⟩=some x)(hne:b≠p):wr.cell? ⟨b,o,none⟩=some x:=
 h.fr.cellAt hb (λk=>k.elim hne (by simp[Value.ownBlock]))
def ie (n:Int):Nat:=(n % 18446744073709551616).toNat
def ig (ns:List Int):List UInt8:=ns.flatMap (λn=>bB (ie n))
theorem ii (ns:List Int)(n:Int):ig (ns++[n])=ig ns++bB (ie n):=by unfold ig;simp
theorem ij (ns:List Int):(ig ns).length≤10*ns.length:=by
 unfold ig
 induction ns with
 | nil=>simp
 | cons n r ih=>
  rw[List.flatMap_cons,List.length_append,List.length_cons];have:=bF (ie n) (by unfold ie;omega);omega
theorem IsWr.lto {w:World}{p:Nat}{v:Value}{L:List UInt8}(h:IsWr w p v L){g:Nat}(hg:v.ownBlock=some g):g<w.heap.size:=by
 rcases h.own.2 with⟨rfl,_⟩|⟨k,cap,cur,rfl,_,hh,_⟩
 ·cases hg
 ·cases hg;exact lt_of_block hh
theorem WrTo.cellx {p:Nat}{w w1:World}{v v1:Value}{L:List UInt8}(h:WrTo p w w1 v v1 L){b o:Nat}{x:Value}(hb:w.cell? ⟨b,o,none⟩=some x)(hne:b≠p)(hv:v.ownBlock≠some b):w1.cell? ⟨b,o,none⟩=some x:=
 h.fr.cellAt hb (by rintro(e|e);exact hne e;exact hv e)
set_option maxRecDepth 100000 in
theorem ik (sv:Value)(ns:List Int)(p:Nat)(v:Value)(L:List UInt8)(w:World)(h:IsWr w p v L)(hs:IntsAt w sv ns)(hsb:∀g,sv.ownBlock=some g→g≠p∧v.ownBlock≠some g)(hn:ns.length≤100)(hL:L.length≤1000000) :
  Calls Tryz.prog 171 #[.pointer (some ⟨p,0,none⟩),sv] w λe w'=>e = .returned (.tuple #[])∧∃v',WrTo p w w' v v' (L++ig ns):=by
 obtain⟨a,c,rfl,_,hc⟩:=hs;have hrow:∀i (hi:i<ns.length),∃g o,a=some ⟨g,o,none⟩∧w.cell? ⟨g,o+i,none⟩=some (.int .i64 ns[i]):=λi hi=>by
  rcases hc with rfl|⟨b,o,rfl,hcell⟩
  ·simp at hi
  ·exact⟨b,o,rfl,hcell i hi⟩
 have H:=hid h;have HR:=hid hrow;have HSB:=hid hsb;clear h hc hrow hsb
 go_enter Tryz.func171,Tryz.ntmps171
 go_wp2
 go_loopw [8] (λi wr=>∃(k:Nat) (v1:Value),i = .int .i64 k∧k≤ns.length∧Hid (WrTo p w wr v v1 (L++ig (ns.take k)))) (λi _=>ns.length-(intOf i).toNat)
 case atStart=>exact⟨0,v,rfl,by omega,hid (by rw[List.take_zero];show WrTo p w w v v (L++[]);rw[List.append_nil];exact⟨H.out,Fr.refl _ _,Went.refl _ _⟩)⟩
 case round=>
  obtain⟨k,v1,rfl,hk,HW⟩:=hrel;by_cases hlt:k<ns.length
  ·obtain⟨g,o,rfl,hcell⟩:=HR.out k hlt
   have hgb:=HSB.out g rfl;have hcell:=HW.out.cellx hcell hgb.1 hgb.2;have hlen:(L++ig (ns.take k)).length+10≤1073741824:=by
    have:=ij (ns.take k);rw[List.length_take]at this;rw[List.length_append];omega
   obtain⟨z,hz⟩:∃z,z=ns[k]:=⟨_,rfl⟩;rw[← hz]at hcell;have HST:=hid (show ig (ns.take (k+1))=ig (ns.take k)++bB (ie z)from by rw[List.take_succ_eq_append_getElem hlt,ii,hz]);have hu:IntKind.u64.wrap z=((ie z:Nat):Int):=by unfold ie;rw[IntKind.wrap_u64];omega
   clear hz hgb
   go_wp2_with fail
   try rw[hu]
   refine(ia (ie z) p v1 _ wr (by unfold ie;omega) HW.out.is hlen).mono ?_;rintro e w1 ⟨rfl,v2,h2⟩;have H2:=hid (HW.out.trans h2);clear h2;go_wp2
   go_roundw
   case rel=>exact⟨k+1,v2,by go_num,by omega,hid (by rw[HST.out,← List.append_assoc];exact H2.out)⟩
   case measure=>simp[intOf];omega
  ·have hkl:k=ns.length:=by omega
   have HE:=hid (show WrTo p w wr v v1 (L++ig ns)from by have:=HW.out;rwa [hkl,List.take_length]at this);go_wp2
   go_end0
   exact⟨rfl,v1,HE.out⟩
theorem IsWr.pure {w w':World}{p:Nat}{v:Value}{L:List UInt8}(h:IsWr w p v L)(hb:Below w.heap.size w w'):IsWr w' p v L:=h.kept (Fr.pure (S:=λ_=>False) hb) (λh=>h) (λ_ _ h=>h)
end
section
open Go.RowKit Go.Sort Go.Shelf
end
section
open Go.RowKit
theorem il (k n:Nat)(h:n<256 ^ k):val (be k n)=n:=by
 induction k generalizing n with
 | zero=>simp at h;subst h;rfl
 | succ k ih=>
  simp only[be];rw[aL,ih (n / 256) (by rw[Nat.pow_succ]at h;omega)];have:(UInt8.ofNat (n % 256)).toNat=n % 256:=by simp
  rw[this];omega
theorem im (n:Nat)(p:Nat)(v:Value)(L:List UInt8)(w:World)(hn:n<4294967296)(h:IsWr w p v L)(hL:L.length≤1073741824) :
  Calls Tryz.prog 76 #[.pointer (some ⟨p,0,none⟩),.int .u32 (n:Int)] w λe w'=>e = .returned (.tuple #[])∧∃v',WrTo p w w' v v' (L++be 4 n):=by
 have H:=hid h;clear h
 go_enter Tryz.func76,Tryz.ntmps76
 go_wp2_with fail
 refine(br n p v L _ H.out hL).mono ?_;rintro e w1 ⟨rfl,h1⟩;have H1:=hid h1;clear h1;go_wp2
 go_end0
 exact⟨rfl,H1.out⟩
theorem io {l:List UInt8}(h:l.length≤4):val l<4294967296:=by
 have h1:=aN l;have h2:256 ^ l.length≤256 ^ 4:=Nat.pow_le_pow_right (by decide) h;exact Nat.lt_of_lt_of_le h1 h2
theorem ip (w:World)(p:Nat)(s:ByteArray)(st:RdSt)(h:IsRd w p s st) :
  Calls Tryz.prog 105 #[.pointer (some ⟨p,0,none⟩),.int .i64 4] w λe w'=>e = .returned (.int .u32 ((st.fixed s.data.toList 4).1:Int))∧IsRd w' p s (st.fixed s.data.toList 4).2∧Fr (λk=>k=p) w w':=by
 unfold RdSt.fixed;have H:=hid h;clear h
 go_enter Tryz.func105,Tryz.ntmps105
 go_wp2_with fail
 refine(aK _ p s st H.out 4 (by omega)).mono ?_;rintro e w1 ⟨r,hr,rfl,h1,hf1⟩;have hrs:r.size≤4:=by rw[av hr];exact aP st s.data.toList 4
 have HR:=hid hr;have H1:=hid h1;clear hr h1;go_wp2
 go_loop [7,17] (λv i=>∃(j n:Nat),j≤r.size∧i = .int .i64 j∧v = .int .u64 (n:Int)∧n=val (r.data.toList.take j)) (λ_ i=>r.size-(intOf i).toNat)
 case atStart=>exact⟨0,0,by omega,rfl,rfl,rfl⟩
 case round=>
  obtain⟨j,n,hj,rfl,rfl,hn⟩:=hrel;by_cases hlt:j<r.size
  ·have hb7:n<72057594037927936:=by rw[hn];exact aO (by rw[List.length_take];omega)
   have HO:=hid (aR n r[j] hb7);have HN:=hid hn;clear hn;go_wp2
   go_round
   case rel=>exact⟨j+1,n*256+r[j].toNat,by omega,by go_num,by rw[HO.out],by rw[aS r j hlt,HN.out]⟩
   case measure=>simp[intOf];omega
  ·have hb2:n<4294967296:=by rw[hn];exact io (by rw[List.length_take,am];omega)
   have HN:=hid hn;clear hn;go_wp2;go_ret;exact⟨by rw[← HR.out,HN.out,List.take_of_length_le (by rw[am];omega)];rfl,H1.out,hf1⟩
theorem iq (w:World)(p:Nat)(s:ByteArray)(st:RdSt)(h:IsRd w p s st) :
  Calls Tryz.prog 68 #[.pointer (some ⟨p,0,none⟩)] w λe w'=>e = .returned (.int .u32 ((st.fixed s.data.toList 4).1:Int))∧IsRd w' p s (st.fixed s.data.toList 4).2∧Fr (λk=>k=p) w w':=by
 have H:=hid h;clear h
 go_enter Tryz.func68,Tryz.ntmps68
 go_wp2_with fail
 refine(ip _ p s st H.out).mono ?_;rintro e w1 ⟨rfl,h1,hf1⟩;have H1:=hid h1;clear h1;go_wp2;go_ret;exact⟨rfl,H1.out,hf1⟩
theorem ir (c:BitVec 32):bits BinOp.and IntKind.u32 (c.toNat:Int) 1=if c.getLsbD 0 then 1 else 0:=by
 have h:=ac c 1#32;rw[show((1#32).toNat:Int)=1 from rfl]at h;rw[h];rw[BitVec.and_one_eq_setWidth_ofBool_getLsbD];cases c.getLsbD 0<;>rfl
theorem iu (c:BitVec 32):bits BinOp.xor IntKind.u32 ((c.toNat:Int) / 2) 3988292384=((c >>> 1 ^^^ Crc.poly).toNat:Int):=by
 have h:=ae (c >>> 1) Crc.poly;rw[ag]at h;exact h
theorem iw (c:BitVec 32)(w:World) :
  Calls Tryz.prog 272 #[.int .u32 (c.toNat:Int)] w λe w'=>e = .returned (.int .u32 ((Crc.step c).toNat:Int))∧w=w':=by
 have hb:=ir c;have HX:=hid (iu c);cases h0:c.getLsbD 0
 ·rw[h0]at hb
  have HS:Hid ((Crc.step c).toNat=(c >>> 1).toNat):=by unfold Crc.step;rw[h0];rfl
  clear h0
  go_enter Tryz.func272,Tryz.ntmps272
  go_wp2;go_ret;exact⟨aa (by rw[HS.out,ag];rfl),rfl⟩
 ·rw[h0]at hb
  have HS:Hid ((Crc.step c).toNat=(c >>> 1 ^^^ Crc.poly).toNat):=by unfold Crc.step;rw[h0];rfl
  clear h0
  go_enter Tryz.func272,Tryz.ntmps272
  go_wp2;go_ret;exact⟨aa (by rw[HS.out,HX.out]),rfl⟩
def iy (c:BitVec 32):Value:=.int .u32 (c.toNat:Int)
def iz (k:Nat)(c:Array Value):Prop:=c.size=256∧∀i,i<k→c[i]?=some (iy (Crc.tab (BitVec.ofNat 8 i)))
def iA (w:World)(v:Value)(wr:World):Prop:=
 ∃(k:Nat) (c:Array Value),k≤256∧v = .int .i64 k∧iz k c∧wr=(w.alloc (.cells Tryz.zeroCells312 312)).alloc (.cells c 312)
def iB (w:World)(k:Nat)(v:Value)(wr:World):Prop:=
 ∃(j:Nat) (c:Array Value) (x:BitVec 32),j≤8∧v = .int .i64 j∧iz k c∧c[k]?=some (iy x)∧x=Crc.steps j (BitVec.ofNat 32 k)∧wr=(w.alloc (.cells Tryz.zeroCells312 312)).alloc (.cells c 312)
theorem iC {k:Nat}{c:Array Value}(hk:k<256)(h:iz k c):iz k (c.setIfInBounds k (.int .u32 (k:Int)))∧(c.setIfInBounds k (.int .u32 (k:Int)))[k]?=some (iy (Crc.steps 0 (BitVec.ofNat 32 k))):=by
 obtain⟨h1,h2⟩:=h;refine⟨⟨by simp[h1],λi hi=>?_⟩,?_⟩
 ·rw[Array.getElem?_setIfInBounds_ne (by omega)];exact h2 i hi
 ·rw[Array.getElem?_setIfInBounds_self_of_lt (by omega)]
  simp[iy,Crc.steps,BitVec.toNat_ofNat,Nat.mod_eq_of_lt (show k<4294967296 from by omega)]
theorem iD {k j:Nat}{c:Array Value}{x:BitVec 32}(hk:k<256)(h:iz k c)(hx:x=Crc.steps j (BitVec.ofNat 32 k)) :
  iz k (c.setIfInBounds k (.int .u32 ((Crc.step x).toNat:Int)))∧(c.setIfInBounds k (.int .u32 ((Crc.step x).toNat:Int)))[k]?=some (iy (Crc.step x))∧Crc.step x=Crc.steps (j+1) (BitVec.ofNat 32 k):=by
 obtain⟨h1,h2⟩:=h;refine⟨⟨by simp[h1],λi hi=>?_⟩,?_,?_⟩
 ·rw[Array.getElem?_setIfInBounds_ne (by omega)];exact h2 i hi
 ·rw[Array.getElem?_setIfInBounds_self_of_lt (by omega)];rfl
 ·rw[Crc.steps_succ',hx]
theorem iE {k:Nat}{c:Array Value}(hk:k<256)(h:iz k c)(hx:c[k]?=some (iy (Crc.steps 8 (BitVec.ofNat 32 k)))):iz (k+1) c:=by
 refine⟨h.1,λi hi=>?_⟩;by_cases e:i=k
 ·subst e
  rw[hx];have:(BitVec.ofNat 8 i).zeroExtend 32=BitVec.ofNat 32 i:=by
   apply BitVec.eq_of_toNat_eq;simp;omega
  simp only[Crc.tab,this]
 ·exact h.2 i (by omega)
theorem iF {c:Array Value}(h:iz 256 c):c.all (·.oneCell')=true:=by
 rw[Array.all_eq_true];intro i hi;have h2:=h.2 i (by have:=h.1;omega);rw[Array.getElem?_eq_getElem hi]at h2;rw[Option.some.inj h2];rfl
theorem Tryz.info256:(Tryz.prog.info? 312).map (·.size)=some 256:=by kernel_rfl
theorem Tryz.zero256:Tryz.zeroCells312.size=256:=by kernel_rfl
set_option maxRecDepth 100000 in
theorem iG (w:World) :
  Calls Tryz.prog 237 #[] w λe w'=>∃c,iz 256 c∧e = .returned (.agg c)∧Below w.heap.size w w':=by
 go_enter Tryz.func237,Tryz.ntmps237
 go_wp2
 go_loopw [3] (λv wr=>iA w v wr) (λv _=>256-(intOf v).toNat)
 case atStart=>exact⟨0,_,by omega,rfl,⟨Tryz.zero256,λi hi=>by omega⟩,rfl⟩
 case round=>
  obtain⟨k,c,hk,rfl,hc,rfl⟩:=hrel;have HC:=hid hc;clear hc;by_cases hlt:k<256
  ·obtain⟨v0,hv0⟩:∃v,c[k]?=some v:=⟨c[k]'(by rw[HC.out.1];exact hlt),Array.getElem?_eq_getElem _⟩
   have hd4:decide ((k:Int)<256)=true:=by rw[decide_eq_true_iff];omega
   go_wp2
   go_loopw [10] (λv wr=>iB w k v wr) (λv _=>8-(intOf v).toNat)
   case atStart=>exact⟨0,_,_,by omega,rfl,(iC hlt HC.out).1,(iC hlt HC.out).2,rfl,rfl⟩
   case round=>
    obtain⟨j,c2,x,hj,rfl,hc2,hx,hxe,rfl⟩:=hrel;have HC2:=hid hc2;have HX:=hid hx;have HXE:=hid hxe;clear hc2 hxe;unfold iy at hx;by_cases hlt2:j<8
    ·go_wp2_with (go_at_call 272;refine(iw x _).mono ?_;rintro e w' ⟨rfl,rfl⟩)
     go_roundw
     case rel=>
      have h:=iD hlt HC2.out HXE.out;exact⟨j+1,_,_,by omega,by go_num,h.1,h.2.1,h.2.2,rfl⟩
     case measure=>simp[intOf];omega
    ·obtain rfl:j=8:=by omega
     clear hx;go_wp2
     go_roundw
     case rel=>exact⟨k+1,_,by omega,by go_num,iE hlt HC2.out (by rw[← HXE.out];exact HX.out),rfl⟩
     case measure=>simp[intOf];omega
  ·obtain rfl:k=256:=by omega
   have h1:=hid HC.out.1
   go_wp2_with (first
    | (with_reducible refine wpList_load_row rfl 312 _ rfl (w.heap.size+1) rfl 312 c (0,0) _ (heap_alloc2_new _ _ _) Tryz.underlying312 rfl (by rw[Tryz.info256,h1.out]) ?_)
    | (with_reducible refine wpList_store_row rfl 312 _ _ rfl w.heap.size c rfl rfl 312 Tryz.zeroCells312 (heap_alloc2_old _ _ _) (by rw[Tryz.info256,h1.out]) (by rw[Tryz.zero256,h1.out]) (iF HC.out) ?_))
   exact bodyPost_ret (v:=.agg c) (results_cell_row Tryz.results237 _ _ w.heap.size 312 c (0,0) _ rfl (setRow_heap _ _ _ _ _ _ (heap_alloc2_old _ _ _)) Tryz.underlying312 rfl (by rw[Tryz.info256,h1.out])) rfl ⟨c,HC.out,rfl,below_setRow (((Below.refl _ _).alloc (Nat.le_refl _) _).alloc (by simp) _) (Nat.le_refl _) _⟩
theorem iH (x:BitVec 32)(b:UInt8):bits .xor .u8 ((x.toNat:Int) % 256) (b.toNat:Int)=((x.truncate 8 ^^^ Crc.bv b).toNat:Int):=by
 rw[← af];congr 1
theorem iI (x0:BitVec 32)(s:ByteArray)(k:Nat)(h:k<s.size):Crc.run x0 (s.data.toList.take (k+1))=Crc.over (Crc.run x0 (s.data.toList.take k)) (Crc.bv s[k]):=by
 rw[List.take_succ_eq_append_getElem (by simpa using h),Crc.run_snoc];rfl
theorem iJ (y x:BitVec 32):bits .xor .u32 (y.toNat:Int) ((x.toNat:Int) / 256)=((y ^^^ x >>> 8).toNat:Int):=by
 rw[← ae,ag];rfl
set_option maxRecDepth 100000 in
theorem iK (c:Array Value)(x0:BitVec 32)(s:ByteArray)(w:World)(hc:iz 256 c)(hs:s.size≤maxLen) :
  Calls Tryz.prog 236 #[.agg c,.int .u32 (x0.toNat:Int),.string s] w λe w'=>e = .returned (.int .u32 ((Crc.run x0 s.data.toList).toNat:Int))∧Below w.heap.size w w':=by
 unfold maxLen at hs;have HC:=hid hc;clear hc
 go_enter Tryz.func236,Tryz.ntmps236
 go_wp2
 go_loop [1,10] (λv i=>∃(k:Nat) (x:BitVec 32),k≤s.size∧i = .int .i64 k∧v = .int .u32 (x.toNat:Int)∧x=Crc.run x0 (s.data.toList.take k)) (λ_ i=>s.size-(intOf i).toNat)
 case atStart=>exact⟨0,x0,by omega,rfl,rfl,rfl⟩
 case round=>
  obtain⟨k,x,hk,rfl,rfl,hx⟩:=hrel;have HX:=hid hx;clear hx;by_cases hlt:k<s.size
  ·obtain⟨t,ht⟩:∃t:BitVec 8,t=x.truncate 8 ^^^ Crc.bv s[k]:=⟨_,rfl⟩
   obtain⟨y,hy⟩:∃y:BitVec 32,y=Crc.tab t:=⟨_,rfl⟩;have hI:=iH x s[k];rw[← ht]at hI;have htl:=t.isLt;have hcell:c[t.toNat]?=some (.int .u32 (y.toNat:Int)):=by
    rw[HC.out.2 t.toNat (by omega),hy];unfold iy;simp
   have HW:=hid (iJ y x);have HT:=hid ht;have HY:=hid hy;clear ht hy;go_wp2
   go_round
   case rel=>
    refine⟨k+1,y ^^^ x >>> 8,by omega,by go_num,by rw[HW.out],?_⟩;rw[iI x0 s k hlt,← HX.out,HY.out,HT.out];rfl
   case measure=>simp[intOf];omega
  ·go_wp2
   go_ret;exact⟨aa (by rw[HX.out,List.take_of_length_le (by simp;omega)]),(Below.refl _ _).alloc (Nat.le_refl _) _⟩
theorem iL (x:BitVec 32):bits .xor .u32 IntKind.u32.max (x.toNat:Int)=((~~~ x).toNat:Int):=by
 have h:=ae (~~~ 0#32) x;have e:(((~~~ 0#32:BitVec 32).toNat:Nat):Int)=IntKind.u32.max:=by decide
 rw[e]at h;rw[h,Crc.ones,BitVec.allOnes_xor]
theorem iM (x0:BitVec 32)(s:ByteArray)(w:World)(hs:s.size≤maxLen) :
  Calls Tryz.prog 196 #[.int .u32 (x0.toNat:Int),.string s] w λe w'=>e = .returned (.int .u32 ((Crc.add x0 s.data.toList).toNat:Int))∧Below w.heap.size w w':=by
 unfold Crc.add;obtain⟨y,hy⟩:∃y:BitVec 32,y = ~~~ x0:=⟨_,rfl⟩;have hn:=iL x0;rw[← hy]at hn ⊢;have HY:=hid hy;clear hy
 go_enter Tryz.func196,Tryz.ntmps196
 go_wp2_with fail
 refine(iG _).mono ?_;rintro e w1 ⟨c,hc,rfl,hb1⟩
 go_wp2_with fail
 refine(iK c y s _ hc hs).mono ?_;rintro e w2 ⟨rfl,hb2⟩;have HN:=hid (iL (Crc.run y s.data.toList));go_wp2;go_ret;exact⟨aa HN.out,hb1.trans (hb2.mono hb1.size)⟩
theorem iN (s:ByteArray)(w:World)(hs:s.size≤maxLen) :
  Calls Tryz.prog 116 #[.string s] w λe w'=>e = .returned (.int .u32 ((Crc.of s.data.toList).toNat:Int))∧Below w.heap.size w w':=by
 go_enter Tryz.func116,Tryz.ntmps116
 go_wp2_with fail
 refine(iM 0#32 s _ hs).mono ?_;rintro e w1 ⟨rfl,hb1⟩;go_wp2;go_ret;exact⟨rfl,hb1⟩
theorem iO (c:BitVec 32) : #[Value.int .u8 ((c.toNat:Int) % 256),.int .u8 ((c.toNat:Int) / 256 % 256),.int .u8 ((c.toNat:Int) / 65536 % 256),.int .u8 ((c.toNat:Int) / 16777216)]=ah (Crc.four c):=by
 have h:=c.isLt;have e0:((UInt8.ofBitVec (c.truncate 8)).toNat:Int)=(c.toNat:Int) % 256:=by
  show(((c.truncate 8).toNat:Nat):Int)=_;rw[BitVec.truncate_eq_setWidth,BitVec.toNat_setWidth];omega
 have e1:((UInt8.ofBitVec ((c >>> 8).truncate 8)).toNat:Int)=(c.toNat:Int) / 256 % 256:=by
  show((((c >>> 8).truncate 8).toNat:Nat):Int)=_;rw[BitVec.truncate_eq_setWidth,BitVec.toNat_setWidth,BitVec.toNat_ushiftRight,Nat.shiftRight_eq_div_pow];omega
 have e2:((UInt8.ofBitVec ((c >>> 16).truncate 8)).toNat:Int)=(c.toNat:Int) / 65536 % 256:=by
  show((((c >>> 16).truncate 8).toNat:Nat):Int)=_;rw[BitVec.truncate_eq_setWidth,BitVec.toNat_setWidth,BitVec.toNat_ushiftRight,Nat.shiftRight_eq_div_pow];omega
 have e3:((UInt8.ofBitVec ((c >>> 24).truncate 8)).toNat:Int)=(c.toNat:Int) / 16777216:=by
  show((((c >>> 24).truncate 8).toNat:Nat):Int)=_;rw[BitVec.truncate_eq_setWidth,BitVec.toNat_setWidth,BitVec.toNat_ushiftRight,Nat.shiftRight_eq_div_pow];omega
 simp only[ah,Crc.four,List.map_cons,List.map_nil,u8v,e0,e1,e2,e3]
theorem iP (c:BitVec 32)(w:World) :
  Calls Tryz.prog 115 #[.int .u32 (c.toNat:Int)] w λe w'=>∃C,C=ah (Crc.four c)∧e = .returned (.slice (some ⟨w.heap.size,0,none⟩) 4 4)∧w'=w.alloc (.cells C 5):=by
 go_enter Tryz.func115,Tryz.ntmps115
 go_wp2;go_ret;exact⟨_,rfl,rfl,by rw[← iO]⟩
theorem iQ (s:ByteArray)(w:World)(hs:s.size+4≤maxLen) :
  Calls Tryz.prog 77 #[.string s] w λe w'=>∃r:ByteArray,r.data.toList=Crc.seal_ s.data.toList∧e = .returned (.string r)∧Below w.heap.size w w':=by
 unfold maxLen at hs
 go_enter Tryz.func77,Tryz.ntmps77
 go_wp2_with fail
 refine(iN s _ (by unfold maxLen;omega)).mono ?_;rintro e w1 ⟨rfl,hb1⟩
 go_wp2_with fail
 refine(iP _ _).mono ?_;rintro e w2 ⟨C,hC,rfl,rfl⟩;have hconv:=aj (P:=Tryz.prog) (w1.alloc (.cells C 5)) 153 9 5 Tryz.underlying153 Tryz.underlying5 Tryz.underlying9 w1.heap.size 0 4 4 (Crc.four (Crc.of s.data.toList)) rfl (λi h=>by
  rw[World.cell?_alloc_at C 5 _ _ rfl,hC,Nat.zero_add,ai _ _ h])
 obtain⟨q,hq,eq⟩:=ak (Crc.four (Crc.of s.data.toList));rw[eq]at hconv;have HQ:=hid hq;have hqs:q.size≤4:=by rw[← am,hq];exact Nat.le_refl _
 clear hq eq hC;go_wp2;go_ret;refine⟨s++q,?_,rfl,?_⟩
 ·rw[ap,HQ.out];rfl
 ·exact hb1.alloc hb1.size _
theorem iR (s:ByteArray)(w:World)(hs:s.size<4) :
  Calls Tryz.prog 64 #[.string s] w λe w'=>e = .returned (.tuple #[.string ByteArray.empty,.int .i64 8])∧w=w':=by
 go_enter Tryz.func64,Tryz.ntmps64
 go_wp2
 go_ret2
 exact⟨rfl,rfl⟩
def iS (l:List UInt8):Prop:=4≤l.length∧Crc.seal_ (l.take (l.length-4))=l
theorem iT (s:ByteArray)(w:World)(hs:s.size≤maxLen)(h:iS s.data.toList) :
  Calls Tryz.prog 64 #[.string s] w λe w'=>∃t:ByteArray,t.data.toList=s.data.toList.take (s.size-4)∧e = .returned (.tuple #[.string t,.int .i64 0])∧Below w.heap.size w w':=by
 unfold maxLen at hs;have h4:4≤s.size:=by rw[← am];exact h.1
 have H:=hid h.2;clear h
 go_enter Tryz.func64,Tryz.ntmps64
 go_wp2_with fail
 refine(iQ _ _ (by rw[ax s 0 (s.size-4) (by omega) (by omega)];unfold maxLen;omega)).mono ?_;rintro e w1 ⟨r,hr,rfl,hb1⟩;have hcmp:(r.toList == s.toList)=true:=ay (by rw[hr,aw,List.drop_zero,Nat.sub_zero,← am];exact H.out);clear hr;go_wp2
 go_ret2
 exact⟨_,by rw[aw,List.drop_zero,Nat.sub_zero],rfl,hb1⟩
theorem iU (s:ByteArray)(w:World)(h4:4≤s.size)(hs:s.size≤maxLen)(h:¬iS s.data.toList) :
  Calls Tryz.prog 64 #[.string s] w λe w'=>e = .returned (.tuple #[.string ⟨#[]⟩,.int .i64 42])∧Below w.heap.size w w':=by
 unfold maxLen at hs;have H:Hid (Crc.seal_ (s.data.toList.take (s.data.toList.length-4))≠s.data.toList):=λe=>h ⟨by rw[am];exact h4,e⟩;clear h
 go_enter Tryz.func64,Tryz.ntmps64
 go_wp2_with fail
 refine(iQ _ _ (by rw[ax s 0 (s.size-4) (by omega) (by omega)];unfold maxLen;omega)).mono ?_;rintro e w1 ⟨r,hr,rfl,hb1⟩;have hcmp:(r.toList == s.toList)=false:=az (by rw[hr,aw,List.drop_zero,Nat.sub_zero,← am];exact H.out);clear hr;go_wp2
 go_ret2
 exact⟨rfl,hb1⟩
def iV (W:World)(b:Nat)(v0 v1 v2 v3 v4 v5 v6 v7 v8:Value):World:=(((((((((W.setCell ⟨b,0,none⟩ v0).setCell ⟨b,1,none⟩ v1).setCell ⟨b,2,none⟩ v2).setCell ⟨b,3,none⟩ v3).setCell ⟨b,4,none⟩ v4).setCell ⟨b,5,none⟩ v5).setCell ⟨b,6,none⟩ v6).setCell ⟨b,7,none⟩ v7).setCell ⟨b,8,none⟩ v8)
theorem iW (W:World)(b:Nat)(v0 v1 v2 v3 v4 v5 v6 v7 v8:Value):Fr (λk=>k=b) W (iV W b v0 v1 v2 v3 v4 v5 v6 v7 v8):=by
 have h:=Fr.refl (λk=>k=b) W;have h:=h.setCell ⟨b,0,none⟩ (λ_=>rfl) v0;have h:=h.setCell ⟨b,1,none⟩ (λ_=>rfl) v1;have h:=h.setCell ⟨b,2,none⟩ (λ_=>rfl) v2;have h:=h.setCell ⟨b,3,none⟩ (λ_=>rfl) v3;have h:=h.setCell ⟨b,4,none⟩ (λ_=>rfl) v4;have h:=h.setCell ⟨b,5,none⟩ (λ_=>rfl) v5;have h:=h.setCell ⟨b,6,none⟩ (λ_=>rfl) v6;have h:=h.setCell ⟨b,7,none⟩ (λ_=>rfl) v7;have h:=h.setCell ⟨b,8,none⟩ (λ_=>rfl) v8;exact h
theorem iX {W:World}{b:Nat}{T:TypeId}{z0 z1 z2 z3 z4 z5 z6 z7 z8:Value}(v0 v1 v2 v3 v4 v5 v6 v7 v8:Value)(h:W.heap[b]?=some (.cells #[z0,z1,z2,z3,z4,z5,z6,z7,z8] T (0,0))):(iV W b v0 v1 v2 v3 v4 v5 v6 v7 v8).heap[b]?=some (.cells #[v0,v1,v2,v3,v4,v5,v6,v7,v8] T (0,0)):=by
 have h:(W.setCell ⟨b,0,none⟩ v0).heap[b]?=some (.cells #[v0,z1,z2,z3,z4,z5,z6,z7,z8] T (0,0)):=heap_setCell_same _ _ _ _ _ _ h;have h:((W.setCell ⟨b,0,none⟩ v0).setCell ⟨b,1,none⟩ v1).heap[b]?=some (.cells #[v0,v1,z2,z3,z4,z5,z6,z7,z8] T (0,0)):=heap_setCell_same _ _ _ _ _ _ h;have h:(((W.setCell ⟨b,0,none⟩ v0).setCell ⟨b,1,none⟩ v1).setCell ⟨b,2,none⟩ v2).heap[b]?=some (.cells #[v0,v1,v2,z3,z4,z5,z6,z7,z8] T (0,0)):=heap_setCell_same _ _ _ _ _ _ h;have h:((((W.setCell ⟨b,0,none⟩ v0).setCell ⟨b,1,none⟩ v1).setCell ⟨b,2,none⟩ v2).setCell ⟨b,3,none⟩ v3).heap[b]?=some (.cells #[v0,v1,v2,v3,z4,z5,z6,z7,z8] T (0,0)):=heap_setCell_same _ _ _ _ _ _ h;have h:(((((W.setCell ⟨b,0,none⟩ v0).setCell ⟨b,1,none⟩ v1).setCell ⟨b,2,none⟩ v2).setCell ⟨b,3,none⟩ v3).setCell ⟨b,4,none⟩ v4).heap[b]?=some (.cells #[v0,v1,v2,v3,v4,z5,z6,z7,z8] T (0,0)):=heap_setCell_same _ _ _ _ _ _ h;have h:((((((W.setCell ⟨b,0,none⟩ v0).setCell ⟨b,1,none⟩ v1).setCell ⟨b,2,none⟩ v2).setCell ⟨b,3,none⟩ v3).setCell ⟨b,4,none⟩ v4).setCell ⟨b,5,none⟩ v5).heap[b]?=some (.cells #[v0,v1,v2,v3,v4,v5,z6,z7,z8] T (0,0)):=heap_setCell_same _ _ _ _ _ _ h;have h:(((((((W.setCell ⟨b,0,none⟩ v0).setCell ⟨b,1,none⟩ v1).setCell ⟨b,2,none⟩ v2).setCell ⟨b,3,none⟩ v3).setCell ⟨b,4,none⟩ v4).setCell ⟨b,5,none⟩ v5).setCell ⟨b,6,none⟩ v6).heap[b]?=some (.cells #[v0,v1,v2,v3,v4,v5,v6,z7,z8] T (0,0)):=heap_setCell_same _ _ _ _ _ _ h;have h:((((((((W.setCell ⟨b,0,none⟩ v0).setCell ⟨b,1,none⟩ v1).setCell ⟨b,2,none⟩ v2).setCell ⟨b,3,none⟩ v3).setCell ⟨b,4,none⟩ v4).setCell ⟨b,5,none⟩ v5).setCell ⟨b,6,none⟩ v6).setCell ⟨b,7,none⟩ v7).heap[b]?=some (.cells #[v0,v1,v2,v3,v4,v5,v6,v7,z8] T (0,0)):=heap_setCell_same _ _ _ _ _ _ h;have h:(((((((((W.setCell ⟨b,0,none⟩ v0).setCell ⟨b,1,none⟩ v1).setCell ⟨b,2,none⟩ v2).setCell ⟨b,3,none⟩ v3).setCell ⟨b,4,none⟩ v4).setCell ⟨b,5,none⟩ v5).setCell ⟨b,6,none⟩ v6).setCell ⟨b,7,none⟩ v7).setCell ⟨b,8,none⟩ v8).heap[b]?=some (.cells #[v0,v1,v2,v3,v4,v5,v6,v7,v8] T (0,0)):=heap_setCell_same _ _ _ _ _ _ h;exact h
def iY (W:World)(b:Nat)(v0 v1 v2 v3:Value):World:=((((W.setCell ⟨b,0,none⟩ v0).setCell ⟨b,1,none⟩ v1).setCell ⟨b,2,none⟩ v2).setCell ⟨b,3,none⟩ v3)
theorem iZ (W:World)(b:Nat)(v0 v1 v2 v3:Value):Fr (λk=>k=b) W (iY W b v0 v1 v2 v3):=by
 have h:=Fr.refl (λk=>k=b) W;have h:=h.setCell ⟨b,0,none⟩ (λ_=>rfl) v0;have h:=h.setCell ⟨b,1,none⟩ (λ_=>rfl) v1;have h:=h.setCell ⟨b,2,none⟩ (λ_=>rfl) v2;have h:=h.setCell ⟨b,3,none⟩ (λ_=>rfl) v3;exact h
theorem ja {W:World}{b:Nat}{T:TypeId}{z0 z1 z2 z3:Value}(v0 v1 v2 v3:Value)(h:W.heap[b]?=some (.cells #[z0,z1,z2,z3] T (0,0))):(iY W b v0 v1 v2 v3).heap[b]?=some (.cells #[v0,v1,v2,v3] T (0,0)):=by
 have h:(W.setCell ⟨b,0,none⟩ v0).heap[b]?=some (.cells #[v0,z1,z2,z3] T (0,0)):=heap_setCell_same _ _ _ _ _ _ h;have h:((W.setCell ⟨b,0,none⟩ v0).setCell ⟨b,1,none⟩ v1).heap[b]?=some (.cells #[v0,v1,z2,z3] T (0,0)):=heap_setCell_same _ _ _ _ _ _ h;have h:(((W.setCell ⟨b,0,none⟩ v0).setCell ⟨b,1,none⟩ v1).setCell ⟨b,2,none⟩ v2).heap[b]?=some (.cells #[v0,v1,v2,z3] T (0,0)):=heap_setCell_same _ _ _ _ _ _ h;have h:((((W.setCell ⟨b,0,none⟩ v0).setCell ⟨b,1,none⟩ v1).setCell ⟨b,2,none⟩ v2).setCell ⟨b,3,none⟩ v3).heap[b]?=some (.cells #[v0,v1,v2,v3] T (0,0)):=heap_setCell_same _ _ _ _ _ _ h;exact h
end
end Go.Proofs.YtaeakdichkhjaaaGreatDoor
