/- The data of a state, and of projections; how they lie in memory. -/
import Derived.Test.YtaeakdichkhjaaaGreatDoorQAj
import Derived.Test.YtaeakdichkhjaaaGreatDoorQAh
import Derived.Test.YtaeakdichkhjaaaGreatDoorQAa
set_option maxHeartbeats 4000000
open Go.Lib(hid)
namespace Go.Proofs.YtaeakdichkhjaaaGreatDoor
section
open Go.RowKit
theorem j1 (x:BitVec 32)(b:UInt8):bits .xor .u8 ((x.toNat:Int) % 256) (b.toNat:Int)=((x.truncate 8 ^^^ Crc.bv b).toNat:Int):=by
 rw[← ag];congr 1
theorem j2 (x0:BitVec 32)(s:ByteArray)(k:Nat)(h:k<s.size):Crc.run x0 (s.data.toList.take (k+1))=Crc.over (Crc.run x0 (s.data.toList.take k)) (Crc.bv s[k]):=by
 rw[List.take_succ_eq_append_getElem (by simpa using h),Crc.run_snoc];rfl
theorem j3 (y x:BitVec 32):bits .xor .u32 (y.toNat:Int) ((x.toNat:Int) / 256)=((y ^^^ x >>> 8).toNat:Int):=by
 rw[← af,ah];rfl
set_option maxRecDepth 100000 in
theorem j4 (c:Array Value)(x0:BitVec 32)(s:ByteArray)(w:World)(hc:jS 256 c)(hs:s.size≤maxLen) :
  Calls Tryz.prog 236 #[.agg c,.int .u32 (x0.toNat:Int),.string s] w λe w'=>e = .returned (.int .u32 ((Crc.run x0 s.data.toList).toNat:Int))∧Below w.heap.size w w':=by
 unfold maxLen at hs;have HC:=hid hc;clear hc
 go_enter Tryz.func236,Tryz.ntmps236
 go_wp2
 go_loop [1,10] (λv i=>∃(k:Nat) (x:BitVec 32),k≤s.size∧i = .int .i64 k∧v = .int .u32 (x.toNat:Int)∧x=Crc.run x0 (s.data.toList.take k)) (λ_ i=>s.size-(intOf i).toNat)
 case atStart=>exact⟨0,x0,by omega,rfl,rfl,rfl⟩
 case round=>
  obtain⟨k,x,hk,rfl,rfl,hx⟩:=hrel;have HX:=hid hx;clear hx;by_cases hlt:k<s.size
  ·obtain⟨t,ht⟩:∃t:BitVec 8,t=x.truncate 8 ^^^ Crc.bv s[k]:=⟨_,rfl⟩
   obtain⟨y,hy⟩:∃y:BitVec 32,y=Crc.tab t:=⟨_,rfl⟩;have hI:=j1 x s[k];rw[← ht]at hI;have htl:=t.isLt;have hcell:c[t.toNat]?=some (.int .u32 (y.toNat:Int)):=by
    rw[HC.out.2 t.toNat (by omega),hy];unfold jR;simp
   have HW:=hid (j3 y x);have HT:=hid ht;have HY:=hid hy;clear ht hy;go_wp2
   go_round
   case rel=>
    refine⟨k+1,y ^^^ x >>> 8,by omega,by go_num,by rw[HW.out],?_⟩;rw[j2 x0 s k hlt,← HX.out,HY.out,HT.out];rfl
   case measure=>simp[intOf];omega
  ·go_wp2
   go_ret;exact⟨aa (by rw[HX.out,List.take_of_length_le (by simp;omega)]),(Below.refl _ _).alloc (Nat.le_refl _) _⟩
theorem j5 (x:BitVec 32):bits .xor .u32 IntKind.u32.max (x.toNat:Int)=((~~~ x).toNat:Int):=by
 have h:=af (~~~ 0#32) x;have e:(((~~~ 0#32:BitVec 32).toNat:Nat):Int)=IntKind.u32.max:=by decide
 rw[e]at h;rw[h,Crc.ones,BitVec.allOnes_xor]
theorem j7 (x0:BitVec 32)(s:ByteArray)(w:World)(hs:s.size≤maxLen) :
  Calls Tryz.prog 196 #[.int .u32 (x0.toNat:Int),.string s] w λe w'=>e = .returned (.int .u32 ((Crc.add x0 s.data.toList).toNat:Int))∧Below w.heap.size w w':=by
 unfold Crc.add;obtain⟨y,hy⟩:∃y:BitVec 32,y = ~~~ x0:=⟨_,rfl⟩;have hn:=j5 x0;rw[← hy]at hn ⊢;have HY:=hid hy;clear hy
 go_enter Tryz.func196,Tryz.ntmps196
 go_wp2_with fail
 refine(jZ _).mono ?_;rintro e w1 ⟨c,hc,rfl,hb1⟩
 go_wp2_with fail
 refine(j4 c y s _ hc hs).mono ?_;rintro e w2 ⟨rfl,hb2⟩;have HN:=hid (j5 (Crc.run y s.data.toList));go_wp2;go_ret;exact⟨aa HN.out,hb1.trans (hb2.mono hb1.size)⟩
theorem j8 (s:ByteArray)(w:World)(hs:s.size≤maxLen) :
  Calls Tryz.prog 116 #[.string s] w λe w'=>e = .returned (.int .u32 ((Crc.of s.data.toList).toNat:Int))∧Below w.heap.size w w':=by
 go_enter Tryz.func116,Tryz.ntmps116
 go_wp2_with fail
 refine(j7 0#32 s _ hs).mono ?_;rintro e w1 ⟨rfl,hb1⟩;go_wp2;go_ret;exact⟨rfl,hb1⟩
theorem j9 (c:BitVec 32) : #[Value.int .u8 ((c.toNat:Int) % 256),.int .u8 ((c.toNat:Int) / 256 % 256),.int .u8 ((c.toNat:Int) / 65536 % 256),.int .u8 ((c.toNat:Int) / 16777216)]=ai (Crc.four c):=by
 have h:=c.isLt;have e0:((UInt8.ofBitVec (c.truncate 8)).toNat:Int)=(c.toNat:Int) % 256:=by
  show(((c.truncate 8).toNat:Nat):Int)=_;rw[BitVec.truncate_eq_setWidth,BitVec.toNat_setWidth];omega
 have e1:((UInt8.ofBitVec ((c >>> 8).truncate 8)).toNat:Int)=(c.toNat:Int) / 256 % 256:=by
  show((((c >>> 8).truncate 8).toNat:Nat):Int)=_;rw[BitVec.truncate_eq_setWidth,BitVec.toNat_setWidth,BitVec.toNat_ushiftRight,Nat.shiftRight_eq_div_pow];omega
 have e2:((UInt8.ofBitVec ((c >>> 16).truncate 8)).toNat:Int)=(c.toNat:Int) / 65536 % 256:=by
  show((((c >>> 16).truncate 8).toNat:Nat):Int)=_;rw[BitVec.truncate_eq_setWidth,BitVec.toNat_setWidth,BitVec.toNat_ushiftRight,Nat.shiftRight_eq_div_pow];omega
 have e3:((UInt8.ofBitVec ((c >>> 24).truncate 8)).toNat:Int)=(c.toNat:Int) / 16777216:=by
  show((((c >>> 24).truncate 8).toNat:Nat):Int)=_;rw[BitVec.truncate_eq_setWidth,BitVec.toNat_setWidth,BitVec.toNat_ushiftRight,Nat.shiftRight_eq_div_pow];omega
 simp only[ai,Crc.four,List.map_cons,List.map_nil,u8v,e0,e1,e2,e3]
theorem ka (c:BitVec 32)(w:World) :
  Calls Tryz.prog 115 #[.int .u32 (c.toNat:Int)] w λe w'=>∃C,C=ai (Crc.four c)∧e = .returned (.slice (some ⟨w.heap.size,0,none⟩) 4 4)∧w'=w.alloc (.cells C 5):=by
 go_enter Tryz.func115,Tryz.ntmps115
 go_wp2;go_ret;exact⟨_,rfl,rfl,by rw[← j9]⟩
theorem kc (s:ByteArray)(w:World)(hs:s.size+4≤maxLen) :
  Calls Tryz.prog 77 #[.string s] w λe w'=>∃r:ByteArray,r.data.toList=Crc.seal_ s.data.toList∧e = .returned (.string r)∧Below w.heap.size w w':=by
 unfold maxLen at hs
 go_enter Tryz.func77,Tryz.ntmps77
 go_wp2_with fail
 refine(j8 s _ (by unfold maxLen;omega)).mono ?_;rintro e w1 ⟨rfl,hb1⟩
 go_wp2_with fail
 refine(ka _ _).mono ?_;rintro e w2 ⟨C,hC,rfl,rfl⟩;have hconv:=am (P:=Tryz.prog) (w1.alloc (.cells C 5)) 153 9 5 Tryz.underlying153 Tryz.underlying5 Tryz.underlying9 w1.heap.size 0 4 4 (Crc.four (Crc.of s.data.toList)) rfl (λi h=>by
  rw[World.cell?_alloc_at C 5 _ _ rfl,hC,Nat.zero_add,aj _ _ h])
 obtain⟨q,hq,eq⟩:=ap (Crc.four (Crc.of s.data.toList));rw[eq]at hconv;have HQ:=hid hq;have hqs:q.size≤4:=by rw[← aq,hq];exact Nat.le_refl _
 clear hq eq hC;go_wp2;go_ret;refine⟨s++q,?_,rfl,?_⟩
 ·rw[aw,HQ.out];rfl
 ·exact hb1.alloc hb1.size _
theorem kd (s:ByteArray)(w:World)(hs:s.size<4) :
  Calls Tryz.prog 64 #[.string s] w λe w'=>e = .returned (.tuple #[.string ByteArray.empty,.int .i64 8])∧w=w':=by
 go_enter Tryz.func64,Tryz.ntmps64
 go_wp2
 go_ret2
 exact⟨rfl,rfl⟩
def ke (l:List UInt8):Prop:=4≤l.length∧Crc.seal_ (l.take (l.length-4))=l
theorem kf (s:ByteArray)(w:World)(hs:s.size≤maxLen)(h:ke s.data.toList) :
  Calls Tryz.prog 64 #[.string s] w λe w'=>∃t:ByteArray,t.data.toList=s.data.toList.take (s.size-4)∧e = .returned (.tuple #[.string t,.int .i64 0])∧Below w.heap.size w w':=by
 unfold maxLen at hs;have h4:4≤s.size:=by rw[← aq];exact h.1
 have H:=hid h.2;clear h
 go_enter Tryz.func64,Tryz.ntmps64
 go_wp2_with fail
 refine(kc _ _ (by rw[aA s 0 (s.size-4) (by omega) (by omega)];unfold maxLen;omega)).mono ?_;rintro e w1 ⟨r,hr,rfl,hb1⟩;have hcmp:(r.toList == s.toList)=true:=aB (by rw[hr,az,List.drop_zero,Nat.sub_zero,← aq];exact H.out);clear hr;go_wp2
 go_ret2
 exact⟨_,by rw[az,List.drop_zero,Nat.sub_zero],rfl,hb1⟩
theorem kg (s:ByteArray)(w:World)(h4:4≤s.size)(hs:s.size≤maxLen)(h:¬ke s.data.toList) :
  Calls Tryz.prog 64 #[.string s] w λe w'=>e = .returned (.tuple #[.string ⟨#[]⟩,.int .i64 42])∧Below w.heap.size w w':=by
 unfold maxLen at hs;have H:Hid (Crc.seal_ (s.data.toList.take (s.data.toList.length-4))≠s.data.toList):=λe=>h ⟨by rw[aq];exact h4,e⟩;clear h
 go_enter Tryz.func64,Tryz.ntmps64
 go_wp2_with fail
 refine(kc _ _ (by rw[aA s 0 (s.size-4) (by omega) (by omega)];unfold maxLen;omega)).mono ?_;rintro e w1 ⟨r,hr,rfl,hb1⟩;have hcmp:(r.toList == s.toList)=false:=aC (by rw[hr,az,List.drop_zero,Nat.sub_zero,← aq];exact H.out);clear hr;go_wp2
 go_ret2
 exact⟨rfl,hb1⟩
theorem kh {w w4:World}{v:Value}{L:List UInt8}(h:WrTo w.heap.size (w.alloc (.cells #[.slice none 0 0] 155)) w4 (.slice none 0 0) v L):Below w.heap.size w w4:=
 ((Below.refl _ _).alloc (Nat.le_refl _) _).trans (h.fr.below (B:=w.heap.size) (by simp) (λk hk e=>by rcases e with e|e;omega;cases e))
theorem ki (c:Nat)(h:c<128):jh [(c:Int),0,1,1]++[0,0,0,0,0]++[0,0,0,0]=iT c:=by
 have e0:jg (c:Int)=c:=by unfold jg;omega
 have e1:jg 0=0:=rfl;have e2:jg 1=1:=rfl;unfold jh iT;simp only[List.flatMap_cons,List.flatMap_nil,e0,e1,e2,bF h,bF (show 0<128 by omega),bF (show 1<128 by omega)];rfl
set_option maxRecDepth 100000 in
theorem kj (c:Nat)(hc:c<128)(w:World):Calls Tryz.prog 73 #[stV (c:Int) 0 1 1,dl] w λe w'=>(∃r:ByteArray,r.data.toList=iT c∧e = .returned (.tuple #[.string r,.int .i64 0]))∧Below w.heap.size w w':=by
 have HN:=hid (ki c hc);have hn4:=hid (jj [(c:Int),0,1,1]);unfold stV dl
 go_enter Tryz.func73,Tryz.ntmps73
 go_wp2_with fail
 obtain⟨n,hn⟩:∃n,n=w.heap.size:=⟨_,rfl⟩;obtain⟨W0,hW0⟩:∃W0,W0=(w.alloc (.cells #[.int .i64 (c:Int),.int .i64 0,.int .i64 1,.int .i64 1,.slice none 0 0,.slice none 0 0,.slice none 0 0,.slice none 0 0,.slice none 0 0] 29)).alloc (.cells #[.slice none 0 0,.slice none 0 0,.slice none 0 0,.slice none 0 0] 35):=⟨_,rfl⟩;have hbel:Below w.heap.size w W0:=by rw[hW0];exact((Below.refl _ _).alloc (Nat.le_refl _) _).alloc (by simp) _
 have k0:W0.heap[n]?=some (.cells (stC (c:Int) 0 1 1) 29 (0,0)):=by rw[hW0,hn];exact(Below.heap_alloc _ _ _ (by simp)).trans (heap_alloc_new _ _)
 have k1:W0.heap[n+1]?=some (.cells #[.slice none 0 0,.slice none 0 0,.slice none 0 0,.slice none 0 0] 35 (0,0)):=by rw[hW0,hn];exact iu _ _ (by simp)
 rw[← hW0]
 try rw[← hn]
 have K0:=hid k0;have K1:=hid k1;have HB:=hid hbel;have HNN:=hid hn;clear hW0 hn k0 k1 hbel;refine(show Calls Tryz.prog 109 #[.agg #[.int .i64 (c:Int),.int .i64 0,.int .i64 1,.int .i64 1,.slice none 0 0,.slice none 0 0,.slice none 0 0,.slice none 0 0,.slice none 0 0]] W0 _ from jA W0 (c:Int) (by omega) (by omega)).mono ?_;rintro e w1 ⟨rfl,hb1⟩;have B1:=hid hb1;clear hb1;have HV:=hid (λ(wx:World) (hb:Below W0.heap.size W0 wx) j v (h:(#[.slice none 0 0,.slice none 0 0,.slice none 0 0,.slice none 0 0]:Array Value)[j]?=some v)=>((cell_of_row _ _ _ _ _ _ ((hb.block _ (lt_of_block K1.out)).trans K1.out)).trans h:wx.cell? ⟨n+1,j,none⟩=some v));have HX:=hid (λ(wx:World) (hb:Below W0.heap.size W0 wx) j v (h:(stC (c:Int) 0 1 1)[j]?=some v)=>((cell_of_row _ _ _ _ _ _ ((hb.block _ (lt_of_block K0.out)).trans K0.out)).trans h:wx.cell? ⟨n,j,none⟩=some v));have y0:=HV.out w1 B1.out 0 _ rfl;have y1:=HV.out w1 B1.out 1 _ rfl;have y2:=HV.out w1 B1.out 2 _ rfl;have y3:=HV.out w1 B1.out 3 _ rfl
 go_wp2_with fail
 refine(show Calls Tryz.prog 110 #[.agg #[.slice none 0 0,.slice none 0 0,.slice none 0 0,.slice none 0 0]] w1 _ from jI w1).mono ?_;rintro e w2 ⟨rfl,hb2⟩;have B2:=hid (dj B1.out hb2);clear hb2 y0 y1 y2 y3;have x0:=HX.out w2 B2.out 0 _ rfl;have x1:=HX.out w2 B2.out 1 _ rfl;have x2:=HX.out w2 B2.out 2 _ rfl;have x3:=HX.out w2 B2.out 3 _ rfl;have x4:=HX.out w2 B2.out 4 _ rfl;have x5:=HX.out w2 B2.out 5 _ rfl;have x6:=HX.out w2 B2.out 6 _ rfl;have x7:=HX.out w2 B2.out 7 _ rfl;have x8:=HX.out w2 B2.out 8 _ rfl;have hlt:n<w2.heap.size:=aD x0;have hlt1:n+1<w2.heap.size:=aD (HV.out w2 B2.out 0 _ rfl)
 go_wp2_with fail
 refine(show Calls Tryz.prog 111 #[.pointer (some ⟨w2.heap.size,0,none⟩),.agg #[.int .i64 (c:Int),.int .i64 0,.int .i64 1,.int .i64 1,.slice none 0 0,.slice none 0 0,.slice none 0 0,.slice none 0 0,.slice none 0 0]] _ _ from ju (c:Int) w2.heap.size (.slice none 0 0) [] _ (IsWr.fresh w2) (by simp)).mono ?_;rintro e w3 ⟨rfl,v3,h3⟩;have H3:=hid h3;clear h3 x0 x1 x2 x3 x4 x5 x6 x7 x8;have HV3:=hid (λj v (h:(#[.slice none 0 0,.slice none 0 0,.slice none 0 0,.slice none 0 0]:Array Value)[j]?=some v)=>(H3.out.cell ((World.cell?_alloc_past _ _ _ hlt1).trans (HV.out w2 B2.out j v h)) (by omega):w3.cell? ⟨n+1,j,none⟩=some v));have y0:=HV3.out 0 _ rfl;have y1:=HV3.out 1 _ rfl;have y2:=HV3.out 2 _ rfl;have y3:=HV3.out 3 _ rfl
 go_wp2_with fail
 refine(show Calls Tryz.prog 112 #[.pointer (some ⟨w2.heap.size,0,none⟩),.agg #[.slice none 0 0,.slice none 0 0,.slice none 0 0,.slice none 0 0]] w3 _ from jv w2.heap.size v3 _ w3 H3.out.is (by have:=hn4.out;simp at this ⊢;omega)).mono ?_;rintro e w4 ⟨rfl,v4,h4⟩;have hL:([]++(jh [(c:Int),0,1,1]++[0,0,0,0,0]))++[0,0,0,0]=iT c:=by rw[List.nil_append];exact HN.out
 have H4:=hid (show WrTo w2.heap.size _ w4 (.slice none 0 0) v4 (iT c)from by rw[← hL];exact H3.out.trans h4);clear h4 y0 y1 y2 y3 hL
 go_wp2_with fail
 refine(jf w2.heap.size v4 (iT c) w4 H4.out.is).mono ?_;rintro e w5 ⟨rfl,rfl⟩;have hl13:(iT c).length=13:=rfl;rw[hl13];clear hl13
 go_wp2_with fail
 refine(bD w2.heap.size v4 (iT c) _ H4.out.is).mono ?_;rintro e w5 ⟨r,hr,rfl,rfl⟩;have HR:=hid hr;clear hr;go_wp2
 go_ret2
 refine⟨⟨r,HR.out,rfl⟩,HB.out.trans ?_⟩;have h9:=dj B2.out (kh H4.out);exact h9.mono HB.out.size
set_option maxRecDepth 100000 in
theorem kk (q c:Nat)(hq:q≤1048576)(hc:c<128)(w:World):Calls Tryz.prog 43 #[.int .i64 (q:Int),stV (c:Int) 0 1 1,dl] w λe w'=>(∃r:ByteArray,r.data.toList=iU q c∧e = .returned (.tuple #[.string r,.int .i64 0]))∧Below w.heap.size w w':=by
 have hwq:IntKind.u64.wrap (q:Int)=(q:Int):=by rw[IntKind.wrap_u64];omega
 unfold stV dl
 go_enter Tryz.func43,Tryz.ntmps43
 go_wp2_with fail
 refine(show Calls Tryz.prog 73 #[.agg #[.int .i64 (c:Int),.int .i64 0,.int .i64 1,.int .i64 1,.slice none 0 0,.slice none 0 0,.slice none 0 0,.slice none 0 0,.slice none 0 0],.agg #[.slice none 0 0,.slice none 0 0,.slice none 0 0,.slice none 0 0]] _ _ from kj c hc _).mono ?_;rintro e w1 ⟨⟨r,hr,rfl⟩,hb1⟩;have hrz:r.size=13:=by rw[ay hr];rfl
 have HR:=hid hr;have HB:=hid (((Below.refl w.heap.size w).alloc (Nat.le_refl _) _).alloc (by simp) _ |>.trans (hb1.mono (by simp;omega)));clear hr hb1
 go_wp2_with fail
 refine(bB ⟨#[115,110,112,49]⟩ w1.heap.size _ [] _ (IsWr.fresh w1) (by decide)).mono ?_;rintro e w2 ⟨rfl,v2,h2⟩;have H2:=hid h2;clear h2
 go_wp2_with fail
 try rw[hwq]
 refine(bA q w1.heap.size v2 _ w2 (by omega) H2.out.is (by simp)).mono ?_;rintro e w3 ⟨rfl,v3,h3⟩;have H3:=hid (H2.out.trans h3);clear h3
 go_wp2_with fail
 try rw[hrz]
 refine(jK 13 w1.heap.size v3 _ w3 (by omega) H3.out.is (by simp[bf])).mono ?_;rintro e w4 ⟨rfl,v4,h4⟩;have H4:=hid (H3.out.trans h4);clear h4
 go_wp2_with fail
 refine(bB r w1.heap.size v4 _ w4 H4.out.is (by simp[bf];omega)).mono ?_;rintro e w5 ⟨rfl,v5,h5⟩;have H5:=hid (H4.out.trans h5);clear h5
 go_wp2_with fail
 refine(bD w1.heap.size v5 _ w5 H5.out.is).mono ?_;rintro e w6 ⟨t,ht,rfl,rfl⟩;have htl:t.data.toList=[115,110,112,49]++be 8 q++be 4 (iT c).length++iT c:=by
  rw[ht,HR.out];rfl
 have htz:t.size=29:=by rw[ay htl];simp[bf];rfl
 have HT:=hid htl;clear ht htl
 go_wp2_with fail
 refine(kc t _ (by unfold maxLen;omega)).mono ?_;rintro e w7 ⟨u,hu,rfl,hb7⟩;have HU:=hid (show u.data.toList=iU q c from by rw[hu,HT.out];rfl);have HB7:=hid (dj (HB.out.trans ((kh H5.out).mono HB.out.size)) hb7);clear hu hb7;go_wp2
 go_ret2
 exact⟨⟨u,HU.out,rfl⟩,HB7.out⟩
def km (W:World)(b:Nat)(v0 v1 v2 v3 v4 v5 v6 v7 v8:Value):World:=(((((((((W.setCell ⟨b,0,none⟩ v0).setCell ⟨b,1,none⟩ v1).setCell ⟨b,2,none⟩ v2).setCell ⟨b,3,none⟩ v3).setCell ⟨b,4,none⟩ v4).setCell ⟨b,5,none⟩ v5).setCell ⟨b,6,none⟩ v6).setCell ⟨b,7,none⟩ v7).setCell ⟨b,8,none⟩ v8)
theorem kn (W:World)(b:Nat)(v0 v1 v2 v3 v4 v5 v6 v7 v8:Value):Fr (λk=>k=b) W (km W b v0 v1 v2 v3 v4 v5 v6 v7 v8):=by
 have h:=Fr.refl (λk=>k=b) W;have h:=h.setCell ⟨b,0,none⟩ (λ_=>rfl) v0;have h:=h.setCell ⟨b,1,none⟩ (λ_=>rfl) v1;have h:=h.setCell ⟨b,2,none⟩ (λ_=>rfl) v2;have h:=h.setCell ⟨b,3,none⟩ (λ_=>rfl) v3;have h:=h.setCell ⟨b,4,none⟩ (λ_=>rfl) v4;have h:=h.setCell ⟨b,5,none⟩ (λ_=>rfl) v5;have h:=h.setCell ⟨b,6,none⟩ (λ_=>rfl) v6;have h:=h.setCell ⟨b,7,none⟩ (λ_=>rfl) v7;have h:=h.setCell ⟨b,8,none⟩ (λ_=>rfl) v8;exact h
theorem ko {W:World}{b:Nat}{T:TypeId}{z0 z1 z2 z3 z4 z5 z6 z7 z8:Value}(v0 v1 v2 v3 v4 v5 v6 v7 v8:Value)(h:W.heap[b]?=some (.cells #[z0,z1,z2,z3,z4,z5,z6,z7,z8] T (0,0))):(km W b v0 v1 v2 v3 v4 v5 v6 v7 v8).heap[b]?=some (.cells #[v0,v1,v2,v3,v4,v5,v6,v7,v8] T (0,0)):=by
 have h:(W.setCell ⟨b,0,none⟩ v0).heap[b]?=some (.cells #[v0,z1,z2,z3,z4,z5,z6,z7,z8] T (0,0)):=heap_setCell_same _ _ _ _ _ _ h;have h:((W.setCell ⟨b,0,none⟩ v0).setCell ⟨b,1,none⟩ v1).heap[b]?=some (.cells #[v0,v1,z2,z3,z4,z5,z6,z7,z8] T (0,0)):=heap_setCell_same _ _ _ _ _ _ h;have h:(((W.setCell ⟨b,0,none⟩ v0).setCell ⟨b,1,none⟩ v1).setCell ⟨b,2,none⟩ v2).heap[b]?=some (.cells #[v0,v1,v2,z3,z4,z5,z6,z7,z8] T (0,0)):=heap_setCell_same _ _ _ _ _ _ h;have h:((((W.setCell ⟨b,0,none⟩ v0).setCell ⟨b,1,none⟩ v1).setCell ⟨b,2,none⟩ v2).setCell ⟨b,3,none⟩ v3).heap[b]?=some (.cells #[v0,v1,v2,v3,z4,z5,z6,z7,z8] T (0,0)):=heap_setCell_same _ _ _ _ _ _ h;have h:(((((W.setCell ⟨b,0,none⟩ v0).setCell ⟨b,1,none⟩ v1).setCell ⟨b,2,none⟩ v2).setCell ⟨b,3,none⟩ v3).setCell ⟨b,4,none⟩ v4).heap[b]?=some (.cells #[v0,v1,v2,v3,v4,z5,z6,z7,z8] T (0,0)):=heap_setCell_same _ _ _ _ _ _ h;have h:((((((W.setCell ⟨b,0,none⟩ v0).setCell ⟨b,1,none⟩ v1).setCell ⟨b,2,none⟩ v2).setCell ⟨b,3,none⟩ v3).setCell ⟨b,4,none⟩ v4).setCell ⟨b,5,none⟩ v5).heap[b]?=some (.cells #[v0,v1,v2,v3,v4,v5,z6,z7,z8] T (0,0)):=heap_setCell_same _ _ _ _ _ _ h;have h:(((((((W.setCell ⟨b,0,none⟩ v0).setCell ⟨b,1,none⟩ v1).setCell ⟨b,2,none⟩ v2).setCell ⟨b,3,none⟩ v3).setCell ⟨b,4,none⟩ v4).setCell ⟨b,5,none⟩ v5).setCell ⟨b,6,none⟩ v6).heap[b]?=some (.cells #[v0,v1,v2,v3,v4,v5,v6,z7,z8] T (0,0)):=heap_setCell_same _ _ _ _ _ _ h;have h:((((((((W.setCell ⟨b,0,none⟩ v0).setCell ⟨b,1,none⟩ v1).setCell ⟨b,2,none⟩ v2).setCell ⟨b,3,none⟩ v3).setCell ⟨b,4,none⟩ v4).setCell ⟨b,5,none⟩ v5).setCell ⟨b,6,none⟩ v6).setCell ⟨b,7,none⟩ v7).heap[b]?=some (.cells #[v0,v1,v2,v3,v4,v5,v6,v7,z8] T (0,0)):=heap_setCell_same _ _ _ _ _ _ h;have h:(((((((((W.setCell ⟨b,0,none⟩ v0).setCell ⟨b,1,none⟩ v1).setCell ⟨b,2,none⟩ v2).setCell ⟨b,3,none⟩ v3).setCell ⟨b,4,none⟩ v4).setCell ⟨b,5,none⟩ v5).setCell ⟨b,6,none⟩ v6).setCell ⟨b,7,none⟩ v7).setCell ⟨b,8,none⟩ v8).heap[b]?=some (.cells #[v0,v1,v2,v3,v4,v5,v6,v7,v8] T (0,0)):=heap_setCell_same _ _ _ _ _ _ h;exact h
def kp (W:World)(b:Nat)(v0 v1 v2 v3:Value):World:=((((W.setCell ⟨b,0,none⟩ v0).setCell ⟨b,1,none⟩ v1).setCell ⟨b,2,none⟩ v2).setCell ⟨b,3,none⟩ v3)
theorem kq (W:World)(b:Nat)(v0 v1 v2 v3:Value):Fr (λk=>k=b) W (kp W b v0 v1 v2 v3):=by
 have h:=Fr.refl (λk=>k=b) W;have h:=h.setCell ⟨b,0,none⟩ (λ_=>rfl) v0;have h:=h.setCell ⟨b,1,none⟩ (λ_=>rfl) v1;have h:=h.setCell ⟨b,2,none⟩ (λ_=>rfl) v2;have h:=h.setCell ⟨b,3,none⟩ (λ_=>rfl) v3;exact h
theorem kr {W:World}{b:Nat}{T:TypeId}{z0 z1 z2 z3:Value}(v0 v1 v2 v3:Value)(h:W.heap[b]?=some (.cells #[z0,z1,z2,z3] T (0,0))):(kp W b v0 v1 v2 v3).heap[b]?=some (.cells #[v0,v1,v2,v3] T (0,0)):=by
 have h:(W.setCell ⟨b,0,none⟩ v0).heap[b]?=some (.cells #[v0,z1,z2,z3] T (0,0)):=heap_setCell_same _ _ _ _ _ _ h;have h:((W.setCell ⟨b,0,none⟩ v0).setCell ⟨b,1,none⟩ v1).heap[b]?=some (.cells #[v0,v1,z2,z3] T (0,0)):=heap_setCell_same _ _ _ _ _ _ h;have h:(((W.setCell ⟨b,0,none⟩ v0).setCell ⟨b,1,none⟩ v1).setCell ⟨b,2,none⟩ v2).heap[b]?=some (.cells #[v0,v1,v2,z3] T (0,0)):=heap_setCell_same _ _ _ _ _ _ h;have h:((((W.setCell ⟨b,0,none⟩ v0).setCell ⟨b,1,none⟩ v1).setCell ⟨b,2,none⟩ v2).setCell ⟨b,3,none⟩ v3).heap[b]?=some (.cells #[v0,v1,v2,v3] T (0,0)):=heap_setCell_same _ _ _ _ _ _ h;exact h
def SlAt {α:Type}(enc:α→List Value)(k:Nat)(F:Nat→Prop)(w:World)(sv:Value)(xs:List α):Prop:=
 ∃a c,sv = .slice a xs.length c∧xs.length≤c∧(xs=[]∨∃b o,a=some ⟨b,o,none⟩∧F b∧∀i (h:i<xs.length) j v,(enc xs[i])[j]?=some v→w.cell? ⟨b,o+(i*k+j),none⟩=some v)
section
variable {α:Type} {enc:α→List Value} {k:Nat} {F:Nat→Prop}
theorem SlAt.shape {w:World}{sv:Value}{xs:List α}(h:SlAt enc k F w sv xs):∃a c,sv = .slice a xs.length c:=by obtain⟨a,c,h,_⟩:=h;exact⟨a,c,h⟩
theorem SlAt.kept {S:Nat→Prop}{w w':World}{sv:Value}{xs:List α}(h:SlAt enc k F w sv xs)(hf:Fr S w w')(hS:∀g,F g→¬S g):SlAt enc k F w' sv xs:=by
 obtain⟨a,c,rfl,hc,h|⟨b,o,rfl,hb,h⟩⟩:=h
 ·exact⟨a,c,rfl,hc,.inl h⟩
 ·exact⟨_,c,rfl,hc,.inr ⟨b,o,rfl,hb,λi hi j v hv=>hf.cellAt (h i hi j v hv) (hS b hb)⟩⟩
theorem SlAt.pure {w w':World}{sv:Value}{xs:List α}(h:SlAt enc k F w sv xs)(hb:Below w.heap.size w w'):SlAt enc k F w' sv xs:=h.kept (Fr.pure (S:=λ_=>False) hb) (λ_ _ h=>h)
theorem SlAt.mono {G:Nat→Prop}{w:World}{sv:Value}{xs:List α}(h:SlAt enc k F w sv xs)(hF:∀g,F g→G g):SlAt enc k G w sv xs:=by
 obtain⟨a,c,rfl,hc,h|⟨b,o,rfl,hb,h⟩⟩:=h
 ·exact⟨a,c,rfl,hc,.inl h⟩
 ·exact⟨_,c,rfl,hc,.inr ⟨b,o,rfl,hF b hb,h⟩⟩
theorem SlAt.nil (w:World):SlAt enc k F w (.slice none 0 0) ([]:List α):=⟨none,0,rfl,by simp,.inl rfl⟩
theorem SlAt.get {w:World}{a:Option Addr}{c n:Nat}{xs:List α}(h:SlAt enc k F w (.slice a n c) xs)(i:Nat)(hi:i<xs.length) :
  ∃b o,a=some ⟨b,o,none⟩∧F b∧∀j v,(enc xs[i])[j]?=some v→w.cell? ⟨b,o+(i*k+j),none⟩=some v:=by
 obtain⟨a',c',he,_,h|⟨b,o,rfl,hb,h⟩⟩:=h
 ·subst h;simp at hi
 ·cases he;exact⟨b,o,rfl,hb,h i hi⟩
theorem ku {k:Nat}(hk:∀x,(enc x).length=k):∀(xs:List α) (i:Nat) (hi:i<xs.length) (j:Nat) (v:Value),(enc xs[i])[j]?=some v→(xs.flatMap enc)[i*k+j]?=some v
 | x::r,0,_,j,v,h=>by
  rw[List.flatMap_cons,Nat.zero_mul,Nat.zero_add,List.getElem?_append_left]
  ·exact h
  ·exact(List.getElem?_eq_some_iff.1 h).1
 | x::r,i+1,hi,j,v,h=>by
  rw[List.flatMap_cons,List.getElem?_append_right (by rw[hk];rw[Nat.succ_mul];omega),hk,show(i+1)*k+j-k=i*k+j from by rw[Nat.succ_mul];omega];exact ku hk r i (by simpa using hi) j v h
theorem SlAt.of_own {w:World}{base:Nat}{e:TypeId}{v:Value}{xs:List α}(hk:∀x,(enc x).length=k)(h:w.ownsRow base e k v xs.length (xs.flatMap enc))(hF:∀g,v.ownBlock=some g→F g):SlAt enc k F w v xs:=by
 rcases h.2 with⟨rfl,hn⟩|⟨g,cap,cur,rfl,hb,hh,hn,_,hsz,ht⟩
 ·exact⟨none,0,by rw[hn],by omega,.inl (List.eq_nil_of_length_eq_zero hn)⟩
 ·refine⟨_,cap,rfl,hn,.inr ⟨g,0,rfl,hF g rfl,λi hi j v hv=>?_⟩⟩
  have h1:=ku hk xs i hi j v hv;rw[Nat.zero_add,cell_of_row w g _ _ _ _ hh];rw[← ht]at h1;have h2:=(List.getElem?_eq_some_iff.1 h1).1;rw[List.getElem?_take,if_pos (by rw[List.length_take]at h2;omega)]at h1;rw[← Array.getElem?_toList];exact h1
end
structure AccD where
 name:List UInt8
 opn:Bool
deriving DecidableEq
def AccD.cells (x:AccD):List Value:=[.string ⟨x.name.toArray⟩,.bool x.opn]
def AccD.agg (x:AccD):Value:=.agg #[.string ⟨x.name.toArray⟩,.bool x.opn]
abbrev AccsAt (F:Nat→Prop) (w:World) (sv:Value) (xs:List AccD):Prop:=SlAt AccD.cells 2 F w sv xs
theorem AccD.at {F:Nat→Prop}{w:World}{a:Option Addr}{c n:Nat}{xs:List AccD}(h:AccsAt F w (.slice a n c) xs)(k:Nat)(hk:k<xs.length) :
  ∃b o,a=some ⟨b,o,none⟩∧F b∧b<w.heap.size∧w.cell? ⟨b,o+k*2,none⟩=some (.string ⟨xs[k].name.toArray⟩)∧w.cell? ⟨b,o+k*2+1,none⟩=some (.bool xs[k].opn):=by
 obtain⟨b,o,ha,hb,hc⟩:=h.get k hk;exact⟨b,o,ha,hb,aD (hc 0 _ rfl),hc 0 _ rfl,hc 1 _ rfl⟩
structure InsD where
 name:List UInt8
 tick:Int
 halt:Bool
deriving DecidableEq
def InsD.cells (x:InsD):List Value:=[.string ⟨x.name.toArray⟩,.int .i64 x.tick,.bool x.halt]
def InsD.agg (x:InsD):Value:=.agg #[.string ⟨x.name.toArray⟩,.int .i64 x.tick,.bool x.halt]
abbrev InssAt (F:Nat→Prop) (w:World) (sv:Value) (xs:List InsD):Prop:=SlAt InsD.cells 3 F w sv xs
theorem InsD.at {F:Nat→Prop}{w:World}{a:Option Addr}{c n:Nat}{xs:List InsD}(h:InssAt F w (.slice a n c) xs)(k:Nat)(hk:k<xs.length) :
  ∃b o,a=some ⟨b,o,none⟩∧F b∧b<w.heap.size∧w.cell? ⟨b,o+k*3,none⟩=some (.string ⟨xs[k].name.toArray⟩)∧w.cell? ⟨b,o+k*3+1,none⟩=some (.int .i64 xs[k].tick)∧w.cell? ⟨b,o+k*3+2,none⟩=some (.bool xs[k].halt):=by
 obtain⟨b,o,ha,hb,hc⟩:=h.get k hk;exact⟨b,o,ha,hb,aD (hc 0 _ rfl),hc 0 _ rfl,hc 1 _ rfl,hc 2 _ rfl⟩
structure RowD where
 acct:Int
 asset:Int
 free:Int
 held:Int
deriving DecidableEq
def RowD.cells (x:RowD):List Value:=[.int .i64 x.acct,.int .i64 x.asset,.int .i64 x.free,.int .i64 x.held]
def RowD.agg (x:RowD):Value:=.agg #[.int .i64 x.acct,.int .i64 x.asset,.int .i64 x.free,.int .i64 x.held]
abbrev RowsAt (F:Nat→Prop) (w:World) (sv:Value) (xs:List RowD):Prop:=SlAt RowD.cells 4 F w sv xs
theorem RowD.at {F:Nat→Prop}{w:World}{a:Option Addr}{c n:Nat}{xs:List RowD}(h:RowsAt F w (.slice a n c) xs)(k:Nat)(hk:k<xs.length) :
  ∃b o,a=some ⟨b,o,none⟩∧F b∧b<w.heap.size∧w.cell? ⟨b,o+k*4,none⟩=some (.int .i64 xs[k].acct)∧w.cell? ⟨b,o+k*4+1,none⟩=some (.int .i64 xs[k].asset)∧w.cell? ⟨b,o+k*4+2,none⟩=some (.int .i64 xs[k].free)∧w.cell? ⟨b,o+k*4+3,none⟩=some (.int .i64 xs[k].held):=by
 obtain⟨b,o,ha,hb,hc⟩:=h.get k hk;exact⟨b,o,ha,hb,aD (hc 0 _ rfl),hc 0 _ rfl,hc 1 _ rfl,hc 2 _ rfl,hc 3 _ rfl⟩
structure OrdD where
 id:Int
 acct:Int
 inst:Int
 side:Int
 price:Int
 left:Int
deriving DecidableEq
def OrdD.cells (x:OrdD):List Value:=[.int .i64 x.id,.int .i64 x.acct,.int .i64 x.inst,.int .u8 x.side,.int .i64 x.price,.int .i64 x.left]
def OrdD.agg (x:OrdD):Value:=.agg #[.int .i64 x.id,.int .i64 x.acct,.int .i64 x.inst,.int .u8 x.side,.int .i64 x.price,.int .i64 x.left]
abbrev OrdsAt (F:Nat→Prop) (w:World) (sv:Value) (xs:List OrdD):Prop:=SlAt OrdD.cells 6 F w sv xs
theorem OrdD.at {F:Nat→Prop}{w:World}{a:Option Addr}{c n:Nat}{xs:List OrdD}(h:OrdsAt F w (.slice a n c) xs)(k:Nat)(hk:k<xs.length) :
  ∃b o,a=some ⟨b,o,none⟩∧F b∧b<w.heap.size∧w.cell? ⟨b,o+k*6,none⟩=some (.int .i64 xs[k].id)∧w.cell? ⟨b,o+k*6+1,none⟩=some (.int .i64 xs[k].acct)∧w.cell? ⟨b,o+k*6+2,none⟩=some (.int .i64 xs[k].inst)∧w.cell? ⟨b,o+k*6+3,none⟩=some (.int .u8 xs[k].side)∧w.cell? ⟨b,o+k*6+4,none⟩=some (.int .i64 xs[k].price)∧w.cell? ⟨b,o+k*6+5,none⟩=some (.int .i64 xs[k].left):=by
 obtain⟨b,o,ha,hb,hc⟩:=h.get k hk;exact⟨b,o,ha,hb,aD (hc 0 _ rfl),hc 0 _ rfl,hc 1 _ rfl,hc 2 _ rfl,hc 3 _ rfl,hc 4 _ rfl,hc 5 _ rfl⟩
structure BidD where
 acct:Int
 amount:Int
deriving DecidableEq
def BidD.cells (x:BidD):List Value:=[.int .i64 x.acct,.int .i64 x.amount]
def BidD.agg (x:BidD):Value:=.agg #[.int .i64 x.acct,.int .i64 x.amount]
abbrev BidsAt (F:Nat→Prop) (w:World) (sv:Value) (xs:List BidD):Prop:=SlAt BidD.cells 2 F w sv xs
theorem BidD.at {F:Nat→Prop}{w:World}{a:Option Addr}{c n:Nat}{xs:List BidD}(h:BidsAt F w (.slice a n c) xs)(k:Nat)(hk:k<xs.length) :
  ∃b o,a=some ⟨b,o,none⟩∧F b∧b<w.heap.size∧w.cell? ⟨b,o+k*2,none⟩=some (.int .i64 xs[k].acct)∧w.cell? ⟨b,o+k*2+1,none⟩=some (.int .i64 xs[k].amount):=by
 obtain⟨b,o,ha,hb,hc⟩:=h.get k hk;exact⟨b,o,ha,hb,aD (hc 0 _ rfl),hc 0 _ rfl,hc 1 _ rfl⟩
structure AucD where
 id:Int
 seller:Int
 inst:Int
 sealed:Bool
 qty:Int
 reserve:Int
 step:Int
 fin:Int
 bids:List BidD
deriving DecidableEq
def AucD.cells (x:AucD×Value):List Value:=[.int .i64 x.1.id,.int .i64 x.1.seller,.int .i64 x.1.inst,.bool x.1.sealed,.int .i64 x.1.qty,.int .i64 x.1.reserve,.int .i64 x.1.step,.int .i64 x.1.fin,x.2]
def AucD.agg (x:AucD)(bv:Value):Value:=.agg #[.int .i64 x.id,.int .i64 x.seller,.int .i64 x.inst,.bool x.sealed,.int .i64 x.qty,.int .i64 x.reserve,.int .i64 x.step,.int .i64 x.fin,bv]
def AucsAt (F:Nat→Prop)(w:World)(sv:Value)(xs:List AucD):Prop:=∃ms:List (AucD×Value),ms.map (·.1)=xs∧SlAt AucD.cells 9 F w sv ms∧∀m∈ms,BidsAt F w m.2 m.1.bids
theorem AucsAt.shape {F:Nat→Prop}{w:World}{sv:Value}{xs:List AucD}(h:AucsAt F w sv xs):∃a c,sv = .slice a xs.length c:=by
 obtain⟨ms,rfl,h,_⟩:=h;obtain⟨a,c,e⟩:=h.shape;exact⟨a,c,by rw[e,List.length_map]⟩
theorem AucsAt.kept {S F:Nat→Prop}{w w':World}{sv:Value}{xs:List AucD}(h:AucsAt F w sv xs)(hf:Fr S w w')(hS:∀g,F g→¬S g):AucsAt F w' sv xs:=by
 obtain⟨ms,e,h1,h2⟩:=h;exact⟨ms,e,h1.kept hf hS,λm hm=>(h2 m hm).kept hf hS⟩
theorem AucsAt.pure {F:Nat→Prop}{w w':World}{sv:Value}{xs:List AucD}(h:AucsAt F w sv xs)(hb:Below w.heap.size w w'):AucsAt F w' sv xs:=h.kept (Fr.pure (S:=λ_=>False) hb) (λ_ _ h=>h)
theorem AucsAt.mono {F G:Nat→Prop}{w:World}{sv:Value}{xs:List AucD}(h:AucsAt F w sv xs)(hF:∀g,F g→G g):AucsAt G w sv xs:=by
 obtain⟨ms,e,h1,h2⟩:=h;exact⟨ms,e,h1.mono hF,λm hm=>(h2 m hm).mono hF⟩
theorem AucsAt.nil {F:Nat→Prop}(w:World):AucsAt F w (.slice none 0 0) []:=⟨[],rfl,SlAt.nil w,by simp⟩
theorem AucsAt.at {F:Nat→Prop}{w:World}{a:Option Addr}{c n:Nat}{xs:List AucD}(h:AucsAt F w (.slice a n c) xs)(k:Nat)(hk:k<xs.length) :
  ∃b o bv,a=some ⟨b,o,none⟩∧F b∧b<w.heap.size∧BidsAt F w bv xs[k].bids∧w.cell? ⟨b,o+k*9,none⟩=some (.int .i64 xs[k].id)∧w.cell? ⟨b,o+k*9+1,none⟩=some (.int .i64 xs[k].seller)∧w.cell? ⟨b,o+k*9+2,none⟩=some (.int .i64 xs[k].inst)∧w.cell? ⟨b,o+k*9+3,none⟩=some (.bool xs[k].sealed)∧w.cell? ⟨b,o+k*9+4,none⟩=some (.int .i64 xs[k].qty)∧w.cell? ⟨b,o+k*9+5,none⟩=some (.int .i64 xs[k].reserve)∧w.cell? ⟨b,o+k*9+6,none⟩=some (.int .i64 xs[k].step)∧w.cell? ⟨b,o+k*9+7,none⟩=some (.int .i64 xs[k].fin)∧w.cell? ⟨b,o+k*9+8,none⟩=some (bv):=by
 obtain⟨ms,rfl,h1,h2⟩:=h;rw[List.length_map]at hk;obtain⟨b,o,ha,hb,hc⟩:=h1.get k hk;simp only[List.getElem_map];have hm:=h2 _ (List.getElem_mem hk);refine⟨b,o,ms[k].2,ha,hb,aD (hc 0 _ rfl),hm,hc 0 _ rfl,hc 1 _ rfl,hc 2 _ rfl,hc 3 _ rfl,hc 4 _ rfl,hc 5 _ rfl,hc 6 _ rfl,hc 7 _ rfl,hc 8 _ rfl⟩
structure OpnD where
 acct:Int
 id:Int
 inst:Int
 side:Int
 price:Int
 left:Int
deriving DecidableEq
def OpnD.cells (x:OpnD):List Value:=[.int .i64 x.acct,.int .i64 x.id,.int .i64 x.inst,.int .u8 x.side,.int .i64 x.price,.int .i64 x.left]
def OpnD.agg (x:OpnD):Value:=.agg #[.int .i64 x.acct,.int .i64 x.id,.int .i64 x.inst,.int .u8 x.side,.int .i64 x.price,.int .i64 x.left]
abbrev OpnsAt (F:Nat→Prop) (w:World) (sv:Value) (xs:List OpnD):Prop:=SlAt OpnD.cells 6 F w sv xs
theorem OpnD.at {F:Nat→Prop}{w:World}{a:Option Addr}{c n:Nat}{xs:List OpnD}(h:OpnsAt F w (.slice a n c) xs)(k:Nat)(hk:k<xs.length) :
  ∃b o,a=some ⟨b,o,none⟩∧F b∧b<w.heap.size∧w.cell? ⟨b,o+k*6,none⟩=some (.int .i64 xs[k].acct)∧w.cell? ⟨b,o+k*6+1,none⟩=some (.int .i64 xs[k].id)∧w.cell? ⟨b,o+k*6+2,none⟩=some (.int .i64 xs[k].inst)∧w.cell? ⟨b,o+k*6+3,none⟩=some (.int .u8 xs[k].side)∧w.cell? ⟨b,o+k*6+4,none⟩=some (.int .i64 xs[k].price)∧w.cell? ⟨b,o+k*6+5,none⟩=some (.int .i64 xs[k].left):=by
 obtain⟨b,o,ha,hb,hc⟩:=h.get k hk;exact⟨b,o,ha,hb,aD (hc 0 _ rfl),hc 0 _ rfl,hc 1 _ rfl,hc 2 _ rfl,hc 3 _ rfl,hc 4 _ rfl,hc 5 _ rfl⟩
structure LotD where
 id:Int
 seller:Int
 inst:Int
 qty:Int
deriving DecidableEq
def LotD.cells (x:LotD):List Value:=[.int .i64 x.id,.int .i64 x.seller,.int .i64 x.inst,.int .i64 x.qty]
def LotD.agg (x:LotD):Value:=.agg #[.int .i64 x.id,.int .i64 x.seller,.int .i64 x.inst,.int .i64 x.qty]
abbrev LotsAt (F:Nat→Prop) (w:World) (sv:Value) (xs:List LotD):Prop:=SlAt LotD.cells 4 F w sv xs
theorem LotD.at {F:Nat→Prop}{w:World}{a:Option Addr}{c n:Nat}{xs:List LotD}(h:LotsAt F w (.slice a n c) xs)(k:Nat)(hk:k<xs.length) :
  ∃b o,a=some ⟨b,o,none⟩∧F b∧b<w.heap.size∧w.cell? ⟨b,o+k*4,none⟩=some (.int .i64 xs[k].id)∧w.cell? ⟨b,o+k*4+1,none⟩=some (.int .i64 xs[k].seller)∧w.cell? ⟨b,o+k*4+2,none⟩=some (.int .i64 xs[k].inst)∧w.cell? ⟨b,o+k*4+3,none⟩=some (.int .i64 xs[k].qty):=by
 obtain⟨b,o,ha,hb,hc⟩:=h.get k hk;exact⟨b,o,ha,hb,aD (hc 0 _ rfl),hc 0 _ rfl,hc 1 _ rfl,hc 2 _ rfl,hc 3 _ rfl⟩
structure PosD where
 acct:Int
 inst:Int
 bought:Int
 sold:Int
 spent:Int
 got:Int
deriving DecidableEq
def PosD.cells (x:PosD):List Value:=[.int .i64 x.acct,.int .i64 x.inst,.int .i64 x.bought,.int .i64 x.sold,.int .i64 x.spent,.int .i64 x.got]
def PosD.agg (x:PosD):Value:=.agg #[.int .i64 x.acct,.int .i64 x.inst,.int .i64 x.bought,.int .i64 x.sold,.int .i64 x.spent,.int .i64 x.got]
abbrev PossAt (F:Nat→Prop) (w:World) (sv:Value) (xs:List PosD):Prop:=SlAt PosD.cells 6 F w sv xs
theorem PosD.at {F:Nat→Prop}{w:World}{a:Option Addr}{c n:Nat}{xs:List PosD}(h:PossAt F w (.slice a n c) xs)(k:Nat)(hk:k<xs.length) :
  ∃b o,a=some ⟨b,o,none⟩∧F b∧b<w.heap.size∧w.cell? ⟨b,o+k*6,none⟩=some (.int .i64 xs[k].acct)∧w.cell? ⟨b,o+k*6+1,none⟩=some (.int .i64 xs[k].inst)∧w.cell? ⟨b,o+k*6+2,none⟩=some (.int .i64 xs[k].bought)∧w.cell? ⟨b,o+k*6+3,none⟩=some (.int .i64 xs[k].sold)∧w.cell? ⟨b,o+k*6+4,none⟩=some (.int .i64 xs[k].spent)∧w.cell? ⟨b,o+k*6+5,none⟩=some (.int .i64 xs[k].got):=by
 obtain⟨b,o,ha,hb,hc⟩:=h.get k hk;exact⟨b,o,ha,hb,aD (hc 0 _ rfl),hc 0 _ rfl,hc 1 _ rfl,hc 2 _ rfl,hc 3 _ rfl,hc 4 _ rfl,hc 5 _ rfl⟩
structure LinD where
 acct:Int
 seq:Int
 kind:Int
 delta:Int
 balance:Int
deriving DecidableEq
def LinD.cells (x:LinD):List Value:=[.int .i64 x.acct,.int .i64 x.seq,.int .u8 x.kind,.int .i64 x.delta,.int .i64 x.balance]
def LinD.agg (x:LinD):Value:=.agg #[.int .i64 x.acct,.int .i64 x.seq,.int .u8 x.kind,.int .i64 x.delta,.int .i64 x.balance]
abbrev LinsAt (F:Nat→Prop) (w:World) (sv:Value) (xs:List LinD):Prop:=SlAt LinD.cells 5 F w sv xs
theorem LinD.at {F:Nat→Prop}{w:World}{a:Option Addr}{c n:Nat}{xs:List LinD}(h:LinsAt F w (.slice a n c) xs)(k:Nat)(hk:k<xs.length) :
  ∃b o,a=some ⟨b,o,none⟩∧F b∧b<w.heap.size∧w.cell? ⟨b,o+k*5,none⟩=some (.int .i64 xs[k].acct)∧w.cell? ⟨b,o+k*5+1,none⟩=some (.int .i64 xs[k].seq)∧w.cell? ⟨b,o+k*5+2,none⟩=some (.int .u8 xs[k].kind)∧w.cell? ⟨b,o+k*5+3,none⟩=some (.int .i64 xs[k].delta)∧w.cell? ⟨b,o+k*5+4,none⟩=some (.int .i64 xs[k].balance):=by
 obtain⟨b,o,ha,hb,hc⟩:=h.get k hk;exact⟨b,o,ha,hb,aD (hc 0 _ rfl),hc 0 _ rfl,hc 1 _ rfl,hc 2 _ rfl,hc 3 _ rfl,hc 4 _ rfl⟩
structure StD where
 clock:Int
 fee:Int
 nextO:Int
 nextA:Int
 accts:List AccD
 insts:List InsD
 rows:List RowD
 ords:List OrdD
 aucs:List AucD
deriving DecidableEq
structure VwD where
 open_:List OpnD
 lots:List LotD
 poss:List PosD
 lins:List LinD
deriving DecidableEq
structure StV where
 a:Value
 i:Value
 r:Value
 o:Value
 u:Value
structure VwV where
 o:Value
 l:Value
 p:Value
 n:Value
def kw (s:StD)(v:StV):Array Value:=#[.int .i64 s.clock,.int .i64 s.fee,.int .i64 s.nextO,.int .i64 s.nextA,v.a,v.i,v.r,v.o,v.u]
def ky (v:VwV):Array Value:=#[v.o,v.l,v.p,v.n]
structure StAt (F:Nat→Prop) (w:World) (v:StV) (s:StD):Prop where
 a:AccsAt F w v.a s.accts
 i:InssAt F w v.i s.insts
 r:RowsAt F w v.r s.rows
 o:OrdsAt F w v.o s.ords
 u:AucsAt F w v.u s.aucs
structure VwAt (F:Nat→Prop) (w:World) (v:VwV) (d:VwD):Prop where
 o:OpnsAt F w v.o d.open_
 l:LotsAt F w v.l d.lots
 p:PossAt F w v.p d.poss
 n:LinsAt F w v.n d.lins
theorem StAt.kept {S F:Nat→Prop}{w w':World}{v:StV}{s:StD}(h:StAt F w v s)(hf:Fr S w w')(hS:∀g,F g→¬S g):StAt F w' v s:=⟨h.a.kept hf hS,h.i.kept hf hS,h.r.kept hf hS,h.o.kept hf hS,h.u.kept hf hS⟩
theorem StAt.pure {F:Nat→Prop}{w w':World}{v:StV}{s:StD}(h:StAt F w v s)(hb:Below w.heap.size w w'):StAt F w' v s:=h.kept (Fr.pure (S:=λ_=>False) hb) (λ_ _ h=>h)
theorem StAt.mono {F G:Nat→Prop}{w:World}{v:StV}{s:StD}(h:StAt F w v s)(hF:∀g,F g→G g):StAt G w v s:=⟨h.a.mono hF,h.i.mono hF,h.r.mono hF,h.o.mono hF,h.u.mono hF⟩
theorem VwAt.kept {S F:Nat→Prop}{w w':World}{v:VwV}{d:VwD}(h:VwAt F w v d)(hf:Fr S w w')(hS:∀g,F g→¬S g):VwAt F w' v d:=⟨h.o.kept hf hS,h.l.kept hf hS,h.p.kept hf hS,h.n.kept hf hS⟩
theorem VwAt.pure {F:Nat→Prop}{w w':World}{v:VwV}{d:VwD}(h:VwAt F w v d)(hb:Below w.heap.size w w'):VwAt F w' v d:=h.kept (Fr.pure (S:=λ_=>False) hb) (λ_ _ h=>h)
theorem VwAt.mono {F G:Nat→Prop}{w:World}{v:VwV}{d:VwD}(h:VwAt F w v d)(hF:∀g,F g→G g):VwAt G w v d:=⟨h.o.mono hF,h.l.mono hF,h.p.mono hF,h.n.mono hF⟩
end
end Go.Proofs.YtaeakdichkhjaaaGreatDoor
