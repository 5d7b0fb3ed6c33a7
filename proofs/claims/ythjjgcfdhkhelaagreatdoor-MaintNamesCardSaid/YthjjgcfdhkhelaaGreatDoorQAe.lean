/- The walks of manif.Read. -/
import Derived.Test.YthjjgcfdhkhelaaGreatDoorQAd
import Derived.Deep.LoopGhost
import Derived.Deep.Light
import Derived.Deep.RegionHeld3
import Derived.Deep.AppendLies
import Derived.StillTactics
set_option maxHeartbeats 2000000
set_option maxRecDepth 100000
open Go.Lib(hid)
open Go.Proofs.Tryz
namespace Go.Proofs.YthjjgcfdhkhelaaGreatDoor.Crc
section
def poly:BitVec 32:=0xEDB88320#32
def step (c:BitVec 32):BitVec 32:=if c.getLsbD 0 then (c >>> 1) ^^^ poly else c >>> 1
def steps:Nat→BitVec 32→BitVec 32
 | 0,c=>c
 | n+1,c=>steps n (step c)
theorem fw (m n:Nat)(c:BitVec 32):steps (m+n) c=steps n (steps m c):=by
 induction m generalizing c with
 | zero=>simp[steps]
 | succ m ih=>rw[show m+1+n=(m+n)+1 from by omega];simp only[steps];exact ih _
theorem steps_succ' (n:Nat)(c:BitVec 32):steps (n+1) c=step (steps n c):=by
 rw[fw n 1 c];rfl
def tab (b:BitVec 8):BitVec 32:=steps 8 (b.zeroExtend 32)
def over (c:BitVec 32)(b:BitVec 8):BitVec 32:=tab (c.truncate 8 ^^^ b) ^^^ (c >>> 8)
def bv (b:UInt8):BitVec 8:=b.toBitVec
def run (c:BitVec 32)(s:List UInt8):BitVec 32:=s.foldl (λc b=>over c (bv b)) c
theorem run_snoc (c:BitVec 32)(s:List UInt8)(b:UInt8):run c (s++[b])=over (run c s) (bv b):=by simp[run]
def four (c:BitVec 32):List UInt8:=[UInt8.ofBitVec (c.truncate 8),UInt8.ofBitVec ((c >>> 8).truncate 8),UInt8.ofBitVec ((c >>> 16).truncate 8),UInt8.ofBitVec ((c >>> 24).truncate 8)]
theorem four_length (c:BitVec 32):(four c).length=4:=rfl
theorem parts (d:BitVec 32):d=(d.truncate 8).zeroExtend 32 ^^^ ((d >>> 8) <<< 8):=by
 apply BitVec.eq_of_getLsbD_eq;intro i hi;simp only[BitVec.getLsbD_xor,BitVec.getLsbD_setWidth,BitVec.getLsbD_shiftLeft,BitVec.getLsbD_ushiftRight,BitVec.truncate_eq_setWidth];by_cases h8:i<8
 ·simp[h8,hi]
 ·simp[h8,hi,show 8+(i-8)=i from by omega]
def of (s:List UInt8):BitVec 32 := ~~~ run (~~~ 0#32) s
def add (x:BitVec 32)(s:List UInt8):BitVec 32 := ~~~ run (~~~ x) s
theorem add_zero (s:List UInt8):add 0#32 s=of s:=rfl
def seal_ (s:List UInt8):List UInt8:=s++four (of s)
theorem seal_length (s:List UInt8):(seal_ s).length=s.length+4:=by simp[seal_,four_length]
theorem ones : ~~~ 0#32=BitVec.allOnes 32:=by decide
theorem four_of (q:List UInt8)(h:q.length=4):∃d,q=four d:=by
 match q,h with
 | [a,b,c,e],_=>
  refine⟨(a.toBitVec).zeroExtend 32 ||| ((b.toBitVec).zeroExtend 32 <<< 8) ||| ((c.toBitVec).zeroExtend 32 <<< 16) ||| ((e.toBitVec).zeroExtend 32 <<< 24),?_⟩;have bit:∀(x:UInt8) (y:BitVec 8),(∀i,i<8→x.toBitVec.getLsbD i=y.getLsbD i)→x=UInt8.ofBitVec y:=by
   intro x y hxy;have:x.toBitVec=y:=BitVec.eq_of_getLsbD_eq (λi hi=>hxy i hi);rw[← this]
  have hz:∀(x:UInt8) i,8≤i→x.toBitVec.getLsbD i=false:=λx i hi=>BitVec.getLsbD_of_ge _ _ hi;unfold four;congr 1
  ·apply bit;intro i hi
   simp only[BitVec.truncate_eq_setWidth,BitVec.getLsbD_setWidth,BitVec.getLsbD_or,BitVec.getLsbD_shiftLeft];simp[hi,show i<32 from by omega,show i<16 from by omega,show i<24 from by omega]
  congr 1
  ·apply bit;intro i hi
   simp only[BitVec.truncate_eq_setWidth,BitVec.getLsbD_setWidth,BitVec.getLsbD_or,BitVec.getLsbD_shiftLeft,BitVec.getLsbD_ushiftRight];simp[hi,show i<32 from by omega,show 8+i<32 from by omega,show 8+i<16 from by omega,show 8+i<24 from by omega]
  congr 1
  ·apply bit;intro i hi
   simp only[BitVec.truncate_eq_setWidth,BitVec.getLsbD_setWidth,BitVec.getLsbD_or,BitVec.getLsbD_shiftLeft,BitVec.getLsbD_ushiftRight];simp[hi,show i<32 from by omega,show 16+i<32 from by omega,show ¬(16+i<8)from by omega,show 16+i<24 from by omega,hz a (16+i) (by omega),hz b (16+i-8) (by omega)]
  congr 1
  ·apply bit;intro i hi
   simp only[BitVec.truncate_eq_setWidth,BitVec.getLsbD_setWidth,BitVec.getLsbD_or,BitVec.getLsbD_shiftLeft,BitVec.getLsbD_ushiftRight];simp[hi,show i<32 from by omega,show 24+i<32 from by omega,show ¬(24+i<8)from by omega,show ¬(24+i<16)from by omega,hz a (24+i) (by omega),hz b (24+i-8) (by omega),hz c (24+i-16) (by omega)]
def low (p:BitVec 32):Nat→BitVec 32
 | 0=>0#32
 | n+1=>if p.getLsbD n then low p n ^^^ (1#32 <<< n) else low p n
end
end Go.Proofs.YthjjgcfdhkhelaaGreatDoor.Crc
namespace Go.Proofs.YthjjgcfdhkhelaaGreatDoor
section
open Go.RowKit
theorem fx (c:BitVec 32):bits BinOp.and IntKind.u32 (c.toNat:Int) 1=if c.getLsbD 0 then 1 else 0:=by
 have h:=ac c 1#32;rw[show((1#32).toNat:Int)=1 from rfl]at h;rw[h];rw[BitVec.and_one_eq_setWidth_ofBool_getLsbD];cases c.getLsbD 0<;>rfl
theorem fy (c:BitVec 32):bits BinOp.xor IntKind.u32 ((c.toNat:Int) / 2) 3988292384=((c >>> 1 ^^^ Crc.poly).toNat:Int):=by
 have h:=ae (c >>> 1) Crc.poly;rw[ag]at h;exact h
theorem fA (c:BitVec 32)(w:World) :
  Calls prog 283 #[.int .u32 (c.toNat:Int)] w λe w'=>e = .returned (.int .u32 ((Crc.step c).toNat:Int))∧w=w':=by
 have hb:=fx c;have HX:=hid (fy c);cases h0:c.getLsbD 0
 ·rw[h0]at hb
  have HS:Hid ((Crc.step c).toNat=(c >>> 1).toNat):=by unfold Crc.step;rw[h0];rfl
  clear h0
  go_enter func283,ntmps283
  go_wp2;go_ret;exact⟨aa (by rw[HS.out,ag];rfl),rfl⟩
 ·rw[h0]at hb
  have HS:Hid ((Crc.step c).toNat=(c >>> 1 ^^^ Crc.poly).toNat):=by unfold Crc.step;rw[h0];rfl
  clear h0
  go_enter func283,ntmps283
  go_wp2;go_ret;exact⟨aa (by rw[HS.out,HX.out]),rfl⟩
def fB (c:BitVec 32):Value:=.int .u32 (c.toNat:Int)
def fC (k:Nat)(c:Array Value):Prop:=c.size=256∧∀i,i<k→c[i]?=some (fB (Crc.tab (BitVec.ofNat 8 i)))
def fD (w:World)(v:Value)(wr:World):Prop:=
 ∃(k:Nat) (c:Array Value),k≤256∧v = .int .i64 k∧fC k c∧wr=(w.alloc (.cells Tryz.zeroCells287 287)).alloc (.cells c 287)
def fE (w:World)(k:Nat)(v:Value)(wr:World):Prop:=
 ∃(j:Nat) (c:Array Value) (x:BitVec 32),j≤8∧v = .int .i64 j∧fC k c∧c[k]?=some (fB x)∧x=Crc.steps j (BitVec.ofNat 32 k)∧wr=(w.alloc (.cells Tryz.zeroCells287 287)).alloc (.cells c 287)
theorem fF {k:Nat}{c:Array Value}(hk:k<256)(h:fC k c):fC k (c.setIfInBounds k (.int .u32 (k:Int)))∧(c.setIfInBounds k (.int .u32 (k:Int)))[k]?=some (fB (Crc.steps 0 (BitVec.ofNat 32 k))):=by
 obtain⟨h1,h2⟩:=h;refine⟨⟨by simp[h1],λi hi=>?_⟩,?_⟩
 ·rw[Array.getElem?_setIfInBounds_ne (by omega)];exact h2 i hi
 ·rw[Array.getElem?_setIfInBounds_self_of_lt (by omega)]
  simp[fB,Crc.steps,BitVec.toNat_ofNat,Nat.mod_eq_of_lt (show k<4294967296 from by omega)]
theorem fG {k j:Nat}{c:Array Value}{x:BitVec 32}(hk:k<256)(h:fC k c)(hx:x=Crc.steps j (BitVec.ofNat 32 k)) :
  fC k (c.setIfInBounds k (.int .u32 ((Crc.step x).toNat:Int)))∧(c.setIfInBounds k (.int .u32 ((Crc.step x).toNat:Int)))[k]?=some (fB (Crc.step x))∧Crc.step x=Crc.steps (j+1) (BitVec.ofNat 32 k):=by
 obtain⟨h1,h2⟩:=h;refine⟨⟨by simp[h1],λi hi=>?_⟩,?_,?_⟩
 ·rw[Array.getElem?_setIfInBounds_ne (by omega)];exact h2 i hi
 ·rw[Array.getElem?_setIfInBounds_self_of_lt (by omega)];rfl
 ·rw[Crc.steps_succ',hx]
theorem fH {k:Nat}{c:Array Value}(hk:k<256)(h:fC k c)(hx:c[k]?=some (fB (Crc.steps 8 (BitVec.ofNat 32 k)))):fC (k+1) c:=by
 refine⟨h.1,λi hi=>?_⟩;by_cases e:i=k
 ·subst e
  rw[hx];have:(BitVec.ofNat 8 i).zeroExtend 32=BitVec.ofNat 32 i:=by
   apply BitVec.eq_of_toNat_eq;simp;omega
  simp only[Crc.tab,this]
 ·exact h.2 i (by omega)
theorem fI {c:Array Value}(h:fC 256 c):c.all (·.oneCell')=true:=by
 rw[Array.all_eq_true];intro i hi;have h2:=h.2 i (by have:=h.1;omega);rw[Array.getElem?_eq_getElem hi]at h2;rw[Option.some.inj h2];rfl
theorem Tryz.info256:(prog.info? 287).map (·.size)=some 256:=by kernel_rfl
theorem Tryz.zero256:Tryz.zeroCells287.size=256:=by kernel_rfl
theorem fJ (w:World) :
  Calls prog 209 #[] w λe w'=>∃c,fC 256 c∧e = .returned (.agg c)∧Below w.heap.size w w':=by
 go_enter func209,ntmps209
 go_wp2
 go_loopw [3] (λv wr=>fD w v wr) (λv _=>256-(intOf v).toNat)
 case atStart=>exact⟨0,_,by omega,rfl,⟨Tryz.zero256,λi hi=>by omega⟩,rfl⟩
 case round=>
  obtain⟨k,c,hk,rfl,hc,rfl⟩:=hrel;have HC:=hid hc;clear hc;by_cases hlt:k<256
  ·obtain⟨v0,hv0⟩:∃v,c[k]?=some v:=⟨c[k]'(by rw[HC.out.1];exact hlt),Array.getElem?_eq_getElem _⟩
   have hd4:decide ((k:Int)<256)=true:=by rw[decide_eq_true_iff];omega
   go_wp2
   go_loopw [10] (λv wr=>fE w k v wr) (λv _=>8-(intOf v).toNat)
   case atStart=>exact⟨0,_,_,by omega,rfl,(fF hlt HC.out).1,(fF hlt HC.out).2,rfl,rfl⟩
   case round=>
    obtain⟨j,c2,x,hj,rfl,hc2,hx,hxe,rfl⟩:=hrel;have HC2:=hid hc2;have HX:=hid hx;have HXE:=hid hxe;clear hc2 hxe;unfold fB at hx;by_cases hlt2:j<8
    ·go_wp2_with (go_at_call 283;refine(fA x _).mono ?_;rintro e w' ⟨rfl,rfl⟩)
     go_roundw
     case rel=>
      have h:=fG hlt HC2.out HXE.out;exact⟨j+1,_,_,by omega,by go_num,h.1,h.2.1,h.2.2,rfl⟩
     case measure=>simp[intOf];omega
    ·obtain rfl:j=8:=by omega
     clear hx;go_wp2
     go_roundw
     case rel=>exact⟨k+1,_,by omega,by go_num,fH hlt HC2.out (by rw[← HXE.out];exact HX.out),rfl⟩
     case measure=>simp[intOf];omega
  ·obtain rfl:k=256:=by omega
   have h1:=hid HC.out.1
   go_wp2_with (first
    | (with_reducible refine wpList_load_row rfl 287 _ rfl (w.heap.size+1) rfl 287 c (0,0) _ (heap_alloc2_new _ _ _) underlying287 rfl (by rw[Tryz.info256,h1.out]) ?_)
    | (with_reducible refine wpList_store_row rfl 287 _ _ rfl w.heap.size c rfl rfl 287 Tryz.zeroCells287 (heap_alloc2_old _ _ _) (by rw[Tryz.info256,h1.out]) (by rw[Tryz.zero256,h1.out]) (fI HC.out) ?_))
   exact bodyPost_ret (v:=.agg c) (results_cell_row results209 _ _ w.heap.size 287 c (0,0) _ rfl (setRow_heap _ _ _ _ _ _ (heap_alloc2_old _ _ _)) underlying287 rfl (by rw[Tryz.info256,h1.out])) rfl ⟨c,HC.out,rfl,below_setRow (((Below.refl _ _).alloc (Nat.le_refl _) _).alloc (by simp) _) (Nat.le_refl _) _⟩
theorem fK (x:BitVec 32)(b:UInt8):bits .xor .u8 ((x.toNat:Int) % 256) (b.toNat:Int)=((x.truncate 8 ^^^ Crc.bv b).toNat:Int):=by
 rw[← af];congr 1
theorem fL (x0:BitVec 32)(s:ByteArray)(k:Nat)(h:k<s.size):Crc.run x0 (s.data.toList.take (k+1))=Crc.over (Crc.run x0 (s.data.toList.take k)) (Crc.bv s[k]):=by
 rw[List.take_succ_eq_append_getElem (by simpa using h),Crc.run_snoc];rfl
theorem fM (y x:BitVec 32):bits .xor .u32 (y.toNat:Int) ((x.toNat:Int) / 256)=((y ^^^ x >>> 8).toNat:Int):=by
 rw[← ae,ag];rfl
theorem fN (c:Array Value)(x0:BitVec 32)(s:ByteArray)(w:World)(hc:fC 256 c)(hs:s.size≤maxLen) :
  Calls prog 208 #[.agg c,.int .u32 (x0.toNat:Int),.string s] w λe w'=>e = .returned (.int .u32 ((Crc.run x0 s.data.toList).toNat:Int))∧Below w.heap.size w w':=by
 unfold maxLen at hs;have HC:=hid hc;clear hc
 go_enter func208,ntmps208
 go_wp2
 go_loop [1,10] (λv i=>∃(k:Nat) (x:BitVec 32),k≤s.size∧i = .int .i64 k∧v = .int .u32 (x.toNat:Int)∧x=Crc.run x0 (s.data.toList.take k)) (λ_ i=>s.size-(intOf i).toNat)
 case atStart=>exact⟨0,x0,by omega,rfl,rfl,rfl⟩
 case round=>
  obtain⟨k,x,hk,rfl,rfl,hx⟩:=hrel;have HX:=hid hx;clear hx;by_cases hlt:k<s.size
  ·obtain⟨t,ht⟩:∃t:BitVec 8,t=x.truncate 8 ^^^ Crc.bv s[k]:=⟨_,rfl⟩
   obtain⟨y,hy⟩:∃y:BitVec 32,y=Crc.tab t:=⟨_,rfl⟩;have hI:=fK x s[k];rw[← ht]at hI;have htl:=t.isLt;have hcell:c[t.toNat]?=some (.int .u32 (y.toNat:Int)):=by
    rw[HC.out.2 t.toNat (by omega),hy];unfold fB;simp
   have HW:=hid (fM y x);have HT:=hid ht;have HY:=hid hy;clear ht hy;go_wp2
   go_round
   case rel=>
    refine⟨k+1,y ^^^ x >>> 8,by omega,by go_num,by rw[HW.out],?_⟩;rw[fL x0 s k hlt,← HX.out,HY.out,HT.out];rfl
   case measure=>simp[intOf];omega
  ·go_wp2
   go_ret;exact⟨aa (by rw[HX.out,List.take_of_length_le (by simp;omega)]),(Below.refl _ _).alloc (Nat.le_refl _) _⟩
theorem fO (x:BitVec 32):bits .xor .u32 IntKind.u32.max (x.toNat:Int)=((~~~ x).toNat:Int):=by
 have h:=ae (~~~ 0#32) x;have e:(((~~~ 0#32:BitVec 32).toNat:Nat):Int)=IntKind.u32.max:=by decide
 rw[e]at h;rw[h,Crc.ones,BitVec.allOnes_xor]
theorem fP (x0:BitVec 32)(s:ByteArray)(w:World)(hs:s.size≤maxLen) :
  Calls prog 158 #[.int .u32 (x0.toNat:Int),.string s] w λe w'=>e = .returned (.int .u32 ((Crc.add x0 s.data.toList).toNat:Int))∧Below w.heap.size w w':=by
 unfold Crc.add;obtain⟨y,hy⟩:∃y:BitVec 32,y = ~~~ x0:=⟨_,rfl⟩;have hn:=fO x0;rw[← hy]at hn ⊢;have HY:=hid hy;clear hy
 go_enter func158,ntmps158
 go_wp2_with fail
 refine(fJ _).mono ?_;rintro e w1 ⟨c,hc,rfl,hb1⟩
 go_wp2_with fail
 refine(fN c y s _ hc hs).mono ?_;rintro e w2 ⟨rfl,hb2⟩;have HN:=hid (fO (Crc.run y s.data.toList));go_wp2;go_ret;exact⟨aa HN.out,hb1.trans (hb2.mono hb1.size)⟩
theorem fQ (s:ByteArray)(w:World)(hs:s.size≤maxLen) :
  Calls prog 114 #[.string s] w λe w'=>e = .returned (.int .u32 ((Crc.of s.data.toList).toNat:Int))∧Below w.heap.size w w':=by
 go_enter func114,ntmps114
 go_wp2_with fail
 refine(fP 0#32 s _ hs).mono ?_;rintro e w1 ⟨rfl,hb1⟩;go_wp2;go_ret;exact⟨rfl,hb1⟩
theorem fR (c:BitVec 32) : #[Value.int .u8 ((c.toNat:Int) % 256),.int .u8 ((c.toNat:Int) / 256 % 256),.int .u8 ((c.toNat:Int) / 65536 % 256),.int .u8 ((c.toNat:Int) / 16777216)]=byteCells (Crc.four c):=by
 have h:=c.isLt;have e0:((UInt8.ofBitVec (c.truncate 8)).toNat:Int)=(c.toNat:Int) % 256:=by
  show(((c.truncate 8).toNat:Nat):Int)=_;rw[BitVec.truncate_eq_setWidth,BitVec.toNat_setWidth];omega
 have e1:((UInt8.ofBitVec ((c >>> 8).truncate 8)).toNat:Int)=(c.toNat:Int) / 256 % 256:=by
  show((((c >>> 8).truncate 8).toNat:Nat):Int)=_;rw[BitVec.truncate_eq_setWidth,BitVec.toNat_setWidth,BitVec.toNat_ushiftRight,Nat.shiftRight_eq_div_pow];omega
 have e2:((UInt8.ofBitVec ((c >>> 16).truncate 8)).toNat:Int)=(c.toNat:Int) / 65536 % 256:=by
  show((((c >>> 16).truncate 8).toNat:Nat):Int)=_;rw[BitVec.truncate_eq_setWidth,BitVec.toNat_setWidth,BitVec.toNat_ushiftRight,Nat.shiftRight_eq_div_pow];omega
 have e3:((UInt8.ofBitVec ((c >>> 24).truncate 8)).toNat:Int)=(c.toNat:Int) / 16777216:=by
  show((((c >>> 24).truncate 8).toNat:Nat):Int)=_;rw[BitVec.truncate_eq_setWidth,BitVec.toNat_setWidth,BitVec.toNat_ushiftRight,Nat.shiftRight_eq_div_pow];omega
 simp only[byteCells,Crc.four,List.map_cons,List.map_nil,u8v,e0,e1,e2,e3]
theorem fS (c:BitVec 32)(w:World) :
  Calls prog 166 #[.int .u32 (c.toNat:Int)] w λe w'=>∃C,C=byteCells (Crc.four c)∧e = .returned (.slice (some ⟨w.heap.size,0,none⟩) 4 4)∧w'=w.alloc (.cells C 5):=by
 go_enter func166,ntmps166
 go_wp2;go_ret;exact⟨_,rfl,rfl,by rw[← fR]⟩
theorem fT (s:ByteArray)(w:World)(hs:s.size+4≤maxLen) :
  Calls prog 127 #[.string s] w λe w'=>∃r:ByteArray,r.data.toList=Crc.seal_ s.data.toList∧e = .returned (.string r)∧Below w.heap.size w w':=by
 unfold maxLen at hs
 go_enter func127,ntmps127
 go_wp2_with fail
 refine(fQ s _ (by unfold maxLen;omega)).mono ?_;rintro e w1 ⟨rfl,hb1⟩
 go_wp2_with fail
 refine(fS _ _).mono ?_;rintro e w2 ⟨C,hC,rfl,rfl⟩;have hconv:=ai (P:=prog) (w1.alloc (.cells C 5)) 178 9 5 underlying178 underlying5 underlying9 w1.heap.size 0 4 4 (Crc.four (Crc.of s.data.toList)) rfl (λi h=>by
  rw[World.cell?_alloc_at C 5 _ _ rfl,hC,Nat.zero_add,ah _ _ h])
 obtain⟨q,hq,eq⟩:=aj (Crc.four (Crc.of s.data.toList));rw[eq]at hconv;have HQ:=hid hq;have hqs:q.size≤4:=by rw[← ak,hq];exact Nat.le_refl _
 clear hq eq hC;go_wp2;go_ret;refine⟨s++q,?_,rfl,?_⟩
 ·rw[al,HQ.out];rfl
 ·exact hb1.alloc hb1.size _
theorem fU (s:ByteArray)(w:World)(hs:s.size<4) :
  Calls prog 120 #[.string s] w λe w'=>e = .returned (.tuple #[.string ByteArray.empty,.int .i64 8])∧w=w':=by
 go_enter func120,ntmps120
 go_wp2
 go_ret2
 exact⟨rfl,rfl⟩
def fV (l:List UInt8):Prop:=4≤l.length∧Crc.seal_ (l.take (l.length-4))=l
theorem fW (s:ByteArray)(w:World)(hs:s.size≤maxLen)(h:fV s.data.toList) :
  Calls prog 120 #[.string s] w λe w'=>∃t:ByteArray,t.data.toList=s.data.toList.take (s.size-4)∧e = .returned (.tuple #[.string t,.int .i64 0])∧Below w.heap.size w w':=by
 unfold maxLen at hs;have h4:4≤s.size:=by rw[← ak];exact h.1
 have H:=hid h.2;clear h
 go_enter func120,ntmps120
 go_wp2_with fail
 refine(fT _ _ (by rw[aq s 0 (s.size-4) (by omega) (by omega)];unfold maxLen;omega)).mono ?_;rintro e w1 ⟨r,hr,rfl,hb1⟩;have hcmp:(r.toList == s.toList)=true:=ar (by rw[hr,ap,List.drop_zero,Nat.sub_zero,← ak];exact H.out);clear hr;go_wp2
 go_ret2
 exact⟨_,by rw[ap,List.drop_zero,Nat.sub_zero],rfl,hb1⟩
theorem fX (s:ByteArray)(w:World)(h4:4≤s.size)(hs:s.size≤maxLen)(h:¬fV s.data.toList) :
  Calls prog 120 #[.string s] w λe w'=>e = .returned (.tuple #[.string ⟨#[]⟩,.int .i64 42])∧Below w.heap.size w w':=by
 unfold maxLen at hs;have H:Hid (Crc.seal_ (s.data.toList.take (s.data.toList.length-4))≠s.data.toList):=λe=>h ⟨by rw[ak];exact h4,e⟩;clear h
 go_enter func120,ntmps120
 go_wp2_with fail
 refine(fT _ _ (by rw[aq s 0 (s.size-4) (by omega) (by omega)];unfold maxLen;omega)).mono ?_;rintro e w1 ⟨r,hr,rfl,hb1⟩;have hcmp:(r.toList == s.toList)=false:=au (by rw[hr,ap,List.drop_zero,Nat.sub_zero,← ak];exact H.out);clear hr;go_wp2
 go_ret2
 exact⟨rfl,hb1⟩
def fY:List UInt8:=[109,97,110,49]
def fZ (x:Int×Int):List UInt8:=be 8 x.1.toNat++be 8 x.2.toNat
def ge (g:Int)(l:bI):List UInt8:=fY++be 8 g.toNat++be 2 l.length++l.flatMap fZ
theorem gi (g:Int)(l:bI)(k:Nat)(h:k<l.length) :
  (fY++be 8 g.toNat++be 2 l.length++(l.take k).flatMap fZ++be 8 l[k].1.toNat)++be 8 l[k].2.toNat=fY++be 8 g.toNat++be 2 l.length++(l.take (k+1)).flatMap fZ:=by
 rw[List.take_succ_eq_append_getElem h,List.flatMap_append];simp[fZ,List.append_assoc]
theorem gj (l:bI):(l.flatMap fZ).length=16*l.length:=by
 induction l with
 | nil=>rfl
 | cons x l ih=>rw[List.flatMap_cons,List.length_append,ih];simp[fZ,aF];omega
theorem gk {g:Int}:∀{last:Int} {l:bI},bK g last l=true→∀i (h:i<l.length),0≤l[i].1∧l[i].1≤g∧last<l[i].2∧l[i].2≤1048576
 | _,[],_,i,h=>by simp at h
 | last,(a,f)::t,hok,i,h=>by
  simp only[bK,Bool.and_eq_true,decide_eq_true_eq]at hok;obtain⟨⟨⟨⟨h1,h2⟩,h3⟩,h4⟩,h5⟩:=hok
  rcases i with _|i
  ·exact⟨h1,h2,h3,h4⟩
  ·have:=gk h5 i (by simpa using h)
   simp only[List.getElem_cons_succ];omega
theorem gm {g:Int}{l:bI}(h:bL g l=true):0≤g∧g≤99999999∧1≤l.length∧l.length≤64∧∀i (h:i<l.length),0≤l[i].1∧l[i].1≤g∧0≤l[i].2∧l[i].2≤1048576:=by
 simp only[bL,Bool.and_eq_true,decide_eq_true_eq]at h;obtain⟨⟨⟨⟨h1,h2⟩,h3⟩,h4⟩,h5⟩:=h;refine⟨h2,h3,h4,h5,λi hi=>?_⟩;have:=gk h1 i hi;omega
theorem gp (w:World)(g:Int)(sv:Value)(l:bI)(hs:bJ w sv l)(hl:l.length≤1099511627776)(hm:bL g l=false) :
  Calls prog 58 #[.agg #[.int .i64 g,sv]] w λe w'=>e = .returned (.tuple #[.string ⟨#[]⟩,.int .i64 4])∧Below w.heap.size w w':=by
 obtain⟨a,c,rfl⟩:=hs.shape;have HS:=hid hs;have HM:=hid hm;clear hs hm
 go_enter func58,ntmps58
 go_wp2_with fail
 refine(bQ _ g _ l (HS.out.pure ((Below.refl _ _).alloc (Nat.le_refl _) _)) hl).mono ?_;rintro e w1 ⟨rfl,hb1⟩;rw[HM.out];go_wp2
 go_ret2
 exact⟨rfl,ax (hb1.mono (by simp))⟩
theorem gq (w:World)(g:Int)(sv:Value)(l:bI)(hs:bJ w sv l)(hm:bL g l=true) :
  Calls prog 58 #[.agg #[.int .i64 g,sv]] w λe w'=>∃r:ByteArray,r.data.toList=Crc.seal_ (ge g l)∧e = .returned (.tuple #[.string r,.int .i64 0])∧Below w.heap.size w w':=by
 obtain⟨a,c,rfl⟩:=hs.shape;obtain⟨hg0,hg1,hl0,hl1,hall⟩:=gm hm;obtain⟨G,rfl⟩:=Int.eq_ofNat_of_zero_le hg0;have HA:=hid hall;have HS:=hid hs;have HM:=hid hm;clear hs hm hall
 go_enter func58,ntmps58
 go_wp2_with fail
 refine(bQ _ (G:Int) _ l (HS.out.pure ((Below.refl _ _).alloc (Nat.le_refl _) _)) (by omega)).mono ?_;rintro e w1 ⟨rfl,hb1⟩;rw[HM.out];have hsz1:=hb1.size;simp at hsz1;have hd0:w1.cell? ⟨w.heap.size,0,none⟩=some (.int .i64 (G:Int)):=by rw[hb1.cell (by simp),World.cell?_alloc_at _ _ _ _ rfl];rfl
 have hd1:w1.cell? ⟨w.heap.size,1,none⟩=some (.slice a l.length c):=by rw[hb1.cell (by simp),World.cell?_alloc_at _ _ _ _ rfl];rfl
 obtain⟨p,hp⟩:∃p,p=w1.heap.size:=⟨_,rfl⟩;have hpw:w.heap.size<p:=by omega
 obtain⟨wa,hwa⟩:∃wa,wa=w1.alloc (.cells #[.slice none 0 0] 180):=⟨_,rfl⟩;have ha0:wa.cell? ⟨w.heap.size,0,none⟩=some (.int .i64 (G:Int)):=by rw[hwa,World.cell?_alloc_past _ _ _ (by omega)];exact hd0
 have ha1:wa.cell? ⟨w.heap.size,1,none⟩=some (.slice a l.length c):=by rw[hwa,World.cell?_alloc_past _ _ _ (by omega)];exact hd1
 have HF:=hid (show aN wa p (.slice none 0 0) []from by rw[hwa,hp];exact aN.fresh w1);have hbw:Below w.heap.size w wa:=by rw[hwa];exact(ax (hb1.mono (by simp))).alloc (by omega) _
 have HSA:=hid (HS.out.pure hbw);have hne:w.heap.size≠p:=by omega
 have HBW:=hid hbw
 go_wp2_with fail
 rw[← hp,← hwa];have HPW:=hid (show p<wa.heap.size from HF.out.lt);clear hd0 hd1 hwa hp hb1 hbw;refine(aX ⟨#[109,97,110,49]⟩ p _ [] _ HF.out (by decide)).mono ?_;rintro e w2 ⟨rfl,v2,h2⟩;have hc0:=h2.cell ha0 hne;have hc1:=h2.cell ha1 hne;have H2:=hid h2;clear h2
 go_wp2_with fail
 refine(aW G p _ _ _ (by omega) H2.out.is (by decide)).mono ?_;rintro e w3 ⟨rfl,v3,h3⟩;have H3:=hid (H2.out.trans h3);have hc0:=H3.out.cell ha0 hne;have hc1:=H3.out.cell ha1 hne;clear h3
 go_wp2_with fail
 refine(ba l.length p _ _ _ (by omega) H3.out.is (by simp[aF])).mono ?_;rintro e w4 ⟨rfl,v4,h4⟩;have H4:=hid (H3.out.trans h4);have hc0:=H4.out.cell ha0 hne;have hc1:=H4.out.cell ha1 hne;clear h4
 go_wp2_with fail
 go_loopw [23] (λi wr=>∃(k:Nat) (v:Value) (L:List UInt8),k≤l.length∧i = .int .i64 k∧L=fY++be 8 G++be 2 l.length++(l.take k).flatMap fZ∧aO p wa wr (.slice none 0 0) v L) (λi _=>l.length-(intOf i).toNat)
 case atStart=>exact⟨0,v4,_,by omega,rfl,by simp[fY],H4.out⟩
 case round=>
  obtain⟨k,v,L,hk,rfl,hL,hW⟩:=hrel;have hLl:L.length≤1073741800:=by
   rw[hL];simp only[List.length_append,aF,gj,List.length_take];simp[fY];omega
  have HL:=hid hL;have HW:=hid hW;have hwlt:w.heap.size<wr.heap.size:=Nat.lt_of_lt_of_le (Nat.lt_trans hpw HPW.out) hW.fr.size;have hplt:p<wr.heap.size:=Nat.lt_of_lt_of_le HPW.out hW.fr.size;clear hL hW;by_cases hlt:k<l.length
  ·obtain⟨b,o,rfl,h1,h2,hbl⟩:=HSA.out.at k hlt
   have hbp:b≠p:=by
    intro e;subst e;have:=HF.out.cell;rw[cell_of_row wa b _ _ _ _ this]at h1;rw[cell_of_row wa b _ _ _ _ this]at h2
    rcases ho:o+k*2 with _|j
    ·rw[ho]at h1;simp at h1
    ·rw[ho]at h1;simp at h1
   have hc1:=HW.out.cell h1 hbp;have hc2:=HW.out.cell h2 hbp;obtain⟨hA0,hA1,hF0,hF1⟩:=HA.out k hlt;have HT:=hid (gi (G:Int) l k hlt);have hbw:b<wr.heap.size:=Nat.lt_of_lt_of_le hbl HW.out.fr.size;clear h1 h2
   generalize l[k].1=A at *
   generalize l[k].2=F at *
   obtain⟨A,rfl⟩:=Int.eq_ofNat_of_zero_le hA0;obtain⟨F,rfl⟩:=Int.eq_ofNat_of_zero_le hF0;have HWA:=hid (HW.out.alloc (.cells #[.int .i64 (A:Int),.int .i64 (F:Int)] 48))
   go_wp2_with fail
   refine(aW A p v L _ (by omega) HWA.out.is (by omega)).mono ?_;rintro e w5 ⟨rfl,v5,h5⟩;have he1:w5.cell? ⟨wr.heap.size,1,none⟩=some (.int .i64 (F:Int)):=
    h5.fr.cellAt (by rw[World.cell?_alloc_at _ _ _ _ rfl];rfl) (λe=>e.elim (by omega) (λe=>by have:=(HW.out.is.own.lt _ e).2;omega))
   have H5:=hid (HWA.out.trans h5);clear h5
   go_wp2_with fail
   refine(aW F p v5 _ _ (by omega) H5.out.is (by rw[List.length_append,aF];omega)).mono ?_;rintro e w6 ⟨rfl,v6,h6⟩;have H6:=hid (H5.out.trans h6);clear h6;go_wp2
   go_roundw
   case rel=>exact⟨k+1,v6,_,by omega,by go_num,by rw[HL.out];exact HT.out,H6.out⟩
   case measure=>simp[intOf];omega
  ·go_wp2_with fail
   refine(aZ p v L _ HW.out.is).mono ?_;rintro e w5 ⟨r,hr,rfl,rfl⟩;have HR:=hid hr;have hrs:r.size≤1073741824:=by rw[ao hr];omega
   clear hr
   go_wp2_with fail
   refine(fT r _ (by unfold maxLen;omega)).mono ?_;rintro e w6 ⟨q,hq,rfl,hb6⟩;have HQ:=hid hq;clear hq;go_wp2
   go_ret2
   refine⟨q,?_,rfl,?_⟩
   ·rw[HQ.out,HR.out,HL.out,List.take_of_length_le (by omega)];rfl
   ·exact(HBW.out.trans (HW.out.fr.below (B:=w.heap.size) HBW.out.size (λi hi e=>e.elim (by omega) (by simp[Value.ownBlock])))).trans (hb6.mono (by omega))
def i64 (n:Nat):Int:=wrap64 (n:Int)
def gB (s:List UInt8):Nat→bc→bI×bc
 | 0,st=>([],st)
 | n+1,st=>
  let r:=gB s n ((st.fixed s 8).2.fixed s 8).2
  ((i64 (st.fixed s 8).1,i64 ((st.fixed s 8).2.fixed s 8).1)::r.1,r.2)
def st0:bc:=⟨0,0,0⟩
def gC (t:List UInt8):Int×bI×bc:=
 let a:=(st0.take t 4).2.2.fixed t 8
 let b:=a.2.fixed t 2
 let r:=gB t b.1 b.2
 (i64 a.1,r.1,r.2)
def gD (t:List UInt8):Option (Int×bI):=
 if (st0.take t 4).1≠fY then none
 else if (gC t).2.2.ended t.length≠0∨bL (gC t).1 (gC t).2.1=false then none
 else some ((gC t).1,(gC t).2.1)
theorem gE (s:List UInt8)(n:Nat)(st:bc):(gB s n st).1.length=n:=by
 induction n generalizing st with
 | zero=>rfl
 | succ n ih=>simp[gB,ih]
def gG:Value:=.agg #[.int .i64 0,.slice none 0 0]
theorem gH (s:ByteArray)(w:World)(hs:s.size<4) :
  Calls prog 57 #[.string s] w λe w'=>e = .returned (.tuple #[gG,.int .i64 8])∧Below w.heap.size w w':=by
 go_enter func57,ntmps57
 go_wp2_with fail
 refine(fU s _ hs).mono ?_;rintro e w1 ⟨rfl,rfl⟩;go_wp2;refine bodyPost_ret (v:=.tuple #[gG,.int .i64 8]) (by simp[results,results57,go_sem];rfl) rfl ⟨rfl,?_⟩;exact(Below.refl _ _).alloc (Nat.le_refl _) _
theorem gI (s:ByteArray)(w:World)(h4:4≤s.size)(hs:s.size≤maxLen)(h:¬fV s.data.toList) :
  Calls prog 57 #[.string s] w λe w'=>e = .returned (.tuple #[gG,.int .i64 42])∧Below w.heap.size w w':=by
 have H:=hid h;clear h
 go_enter func57,ntmps57
 go_wp2_with fail
 refine(fX s _ h4 hs H.out).mono ?_;rintro e w1 ⟨rfl,hb1⟩;have hsz:=hb1.size;simp at hsz;have hz:∀j:Nat,w1.cell? ⟨w.heap.size,j,none⟩=(w.alloc (.cells #[.int .i64 0,.slice none 0 0] 42)).cell? ⟨w.heap.size,j,none⟩:=λj=>hb1.cell (by simp);have hz0:w1.cell? ⟨w.heap.size,0,none⟩=some (.int .i64 0):=by rw[hz,World.cell?_alloc_at _ _ _ _ rfl];rfl
 have hz1:w1.cell? ⟨w.heap.size,1,none⟩=some (.slice none 0 0):=by rw[hz,World.cell?_alloc_at _ _ _ _ rfl];rfl
 have hf:∀j:Nat,w1.frozen? ⟨w.heap.size,j,none⟩=false:=λj=>by rw[hb1.frozen (by simp),World.frozen?_alloc_at _ _ _ _ rfl]
 clear hz;go_wp2;refine bodyPost_ret (v:=.tuple #[gG,.int .i64 42]) (by simp[results,results57,go_sem,hz0,hz1];rfl) rfl ⟨rfl,?_⟩;exact((ax (hb1.mono (by simp))).setCell (p:=⟨w.heap.size,0,none⟩) (Nat.le_refl _) _).setCell (p:=⟨w.heap.size,1,none⟩) (Nat.le_refl _) _
def gJ (l:bI):List Value:=l.flatMap λx=>[.int .i64 x.1,.int .i64 x.2]
theorem gK (l:bI):(gJ l).length=l.length*2:=by
 induction l with
 | nil=>rfl
 | cons x l ih=>simp only[gJ,List.flatMap_cons,List.length_append,List.length_cons,List.length_nil]at ih ⊢;omega
theorem gM (l:bI)(i:Nat)(h:i<l.length):(gJ l)[i*2]?=some (.int .i64 l[i].1)∧(gJ l)[i*2+1]?=some (.int .i64 l[i].2):=by
 induction l generalizing i with
 | nil=>simp at h
 | cons x l ih=>
  rcases i with _|i
  ·simp[gJ]
  ·have:=ih i (by simpa using h)
   simp only[gJ,List.flatMap_cons,List.getElem_cons_succ]at this ⊢;rw[show(i+1)*2=i*2+1+1 from by omega];simpa using this
theorem gN (l:bI)(x y:Int):gJ (l++[(x,y)])=gJ l++[.int .i64 x,.int .i64 y]:=by simp[gJ]
def gO (w:World)(v:Value)(l:bI):Prop:=w.ownsRow 0 48 2 v l.length (gJ l)
theorem gO.at {w:World}{v:Value}{l:bI}(h:gO w v l):bJ w v l:=by
 rcases h.2 with⟨hv,hn⟩|⟨g,cap,cur,hv,hh⟩
 ·exact⟨none,0,by rw[hv,hn],.inl (List.eq_nil_of_length_eq_zero hn)⟩
 ·subst hv
  refine⟨_,cap,rfl,.inr ⟨g,0,rfl,λi hi=>?_⟩⟩;obtain⟨h1,h2⟩:=gM l i hi;rw[Nat.zero_add,World.ownsRow.cellAt h (i*2) (by omega),World.ownsRow.cellAt h (i*2+1) (by omega)];exact⟨h1,h2⟩
theorem Tryz.infoEntry:(prog.info? 48).map (λi=>(i.zero,i.size,i.bytes))=some (some (.agg #[.int .i64 0,.int .i64 0]),2,16):=by kernel_rfl
structure RdLoop (wa wr:World) (t:ByteArray) (n:Nat) (sta:bc) (p m:Nat) (G:Int) (k:Nat) (acc:bI) (st:bc) (v:Value):Prop where
 le:k≤n
 len:acc.length=k
 ents:(gB t.data.toList n sta).1=acc++(gB t.data.toList (n-k) st).1
 last:(gB t.data.toList n sta).2=(gB t.data.toList (n-k) st).2
 rd:bd wr p t st
 box:wr.heap[m]?=some (.cells #[.int .i64 G,v] 42 (0,0))
 own:gO wr v acc
 fr:Fr (λi=>i=p∨i=m) wa wr
 far:∀g,v.ownBlock=some g→wa.heap.size≤g
theorem gP (s:List UInt8)(n k:Nat)(st:bc)(hk:k<n) :
  gB s (n-k) st=((i64 (st.fixed s 8).1,i64 ((st.fixed s 8).2.fixed s 8).1)::(gB s (n-(k+1)) ((st.fixed s 8).2.fixed s 8).2).1,(gB s (n-(k+1)) ((st.fixed s 8).2.fixed s 8).2).2):=by
 rw[show n-k=(n-(k+1))+1 from by omega];rfl
theorem gQ (x:Int):IntKind.i64.wrap x=wrap64 x:=by rw[IntKind.wrap_i64];unfold wrap64;rfl
theorem RdLoop.next {wa wr w6 w7 w8:World}{t:ByteArray}{n:Nat}{sta:bc}{p m:Nat}{G:Int}{k:Nat}{acc:bI}{st sd se:bc}{v v8:Value}{x y gg:Nat}{o:Obj}
  (h:RdLoop wa wr t n sta p m G k acc st v) (hk:k<n) (hpm:p<m) (hwa:m<wa.heap.size) (hsd:st.fixed t.data.toList 8=(x,sd)) (hse:sd.fixed t.data.toList 8=(y,se))
  (hf6:Fr (λk=>k=p) wr.drew w6) (h7:bd w7 p t se) (hf7:Fr (λk=>k=p) w6 w7)
  (hown:w8.ownsRow 0 48 2 v8 (acc.length+1) (gJ acc++[.int .i64 (IntKind.i64.wrap (x:Int)),.int .i64 (IntKind.i64.wrap (y:Int))])) (hg:(w7.alloc o).grownBy w8 v.ownBlock)
  (hv8:v8.ownBlock=some gg) (hat:v.ownBlock=some gg∨gg=w7.heap.size+1) :
  RdLoop wa (w8.setCell ⟨m,1,none⟩ v8) t n sta p m G (k+1) (acc++[(i64 x,i64 y)]) se v8:=by
 have hml:m<wr.heap.size:=lt_of_block h.box;have hm6:m<w6.heap.size:=Nat.lt_of_lt_of_le hml hf6.size;have hm7:m<w7.heap.size:=Nat.lt_of_lt_of_le hm6 hf7.size;have hvm:v.ownBlock≠some m:=by intro e;have:=h.far m e;omega
 have hvp:v.ownBlock≠some p:=by intro e;have:=h.far p e;omega
 have hw7:wa.heap.size≤w7.heap.size:=Nat.le_trans h.fr.size (Nat.le_trans hf6.size hf7.size);have hfar:wa.heap.size≤gg:=by
  rcases hat with e|e
  ·exact h.far gg e
  ·omega
 have hfr7:Fr (λi=>i=p∨i=m) wa w7:=(h.fr.drew.then hf6 (λ_ _ e=>.inl e)).then hf7 (λ_ _ e=>.inl e);have hfr8:Fr (λi=>i=p∨i=m) wa w8:=(hfr7.alloc o).grown hg (λi hi e=>by have:=h.far i e;omega);have hbox:w8.heap[m]?=some (.cells #[.int .i64 G,v] 42 (0,0)):=by
  rw[hg.block m (Nat.lt_of_lt_of_le hm7 (by simp)) (λe=>hvm e.symm),Below.heap_alloc _ _ _ hm7];exact hf7.heapAt (hf6.heapAt (show wr.drew.heap[m]?=_ from h.box) (by omega)) (by omega)
 have hst:=gP t.data.toList n k st hk;rw[hsd]at hst;rw[hse]at hst;refine⟨by omega,by rw[List.length_append,h.len];rfl,?_,?_,?_,?_,?_,hfr8.setCell _ (λ_=>.inr rfl) _,λb hb=>by rw[hv8]at hb;cases hb;exact hfar⟩
 ·rw[h.ents,hst];simp
 ·rw[h.last,hst]
 ·have h8:bd w8 p t se:=⟨by rw[hg.block p (Nat.lt_of_lt_of_le h7.lt (by simp)) (λe=>hvp e.symm),Below.heap_alloc _ _ _ h7.lt];exact h7.1,h7.2⟩
  exact h8.kept ((Fr.refl (λi=>i=m) w8).setCell ⟨m,1,none⟩ (λ_=>rfl) _) (by omega)
 ·rw[heap_setCell_same _ _ _ _ _ _ hbox];rfl
 ·have:gO w8 v8 (acc++[(i64 x,i64 y)]):=by
   unfold gO;rw[gN,List.length_append];rw[gQ,gQ]at hown;exact hown
  exact((Fr.refl (λi=>i=m) w8).setCell ⟨m,1,none⟩ (λ_=>rfl) _).ownsRow this (λb hb=>by rw[hv8]at hb;cases hb;omega)
theorem gR {t:List UInt8}{sa sb sc st:bc}{g n:Nat}{acc:bI}(h1:(st0.take t 4).2.2=sa)(h2:sa.fixed t 8=(g,sb))(h3:sb.fixed t 2=(n,sc))(h4:(gB t n sc).1=acc)(h5:(gB t n sc).2=st):gC t=(i64 g,acc,st):=by
 unfold gC;simp only[h1,h2,h3,h4,h5]
theorem gT {t:List UInt8}(h:(st0.take t 4).1≠fY):gD t=none:=by unfold gD;rw[if_pos h]
theorem gU {t:List UInt8}{g:Int}{acc:bI}{st:bc}(h:gC t=(g,acc,st))(hb:st.ended t.length≠0∨bL g acc=false):gD t=none:=by
 unfold gD;rw[h];simp only
 split
 ·rfl
 ·first
   | rfl
   | rw[if_pos hb]
theorem gV {t:List UInt8}{g:Int}{acc:bI}{st:bc}(h0:(st0.take t 4).1=fY)(h:gC t=(g,acc,st))(h1:st.ended t.length=0)(h2:bL g acc=true):gD t=some (g,acc):=by
 unfold gD;rw[h,if_neg (λhx=>hx h0),if_neg (λhx=>hx.elim (λhx=>hx h1) (λhx=>by simp only at hx;rw[h2]at hx;cases hx))]
def gW (w:World)(t:List UInt8)(e:Ending)(w':World):Prop:=
 Below w.heap.size w w'∧match gD t with
  | none=>e = .returned (.tuple #[gG,.int .i64 4])
  | some (g,l)=>∃v,gO w' v l∧(∀b,v.ownBlock=some b→w.heap.size≤b)∧e = .returned (.tuple #[.agg #[.int .i64 g,v],.int .i64 0])
theorem gX (w:World)(p:Nat)(s:ByteArray)(st:bc)(h:bd w p s st) :
  Calls prog 124 #[.pointer (some ⟨p,0,none⟩)] w λe w'=>∃(n:Nat) (st':bc),st.fixed s.data.toList 2=(n,st')∧n<65536∧e = .returned (.int .u16 (n:Int))∧bd w' p s st'∧Fr (λk=>k=p) w w':=
 (bH w p s st h).mono λ_ _ ⟨he,h1,h2⟩=>⟨_,_,rfl,bC (bt _ _ _),he,h1,h2⟩
theorem gY (s:ByteArray)(w:World)(hs:s.size≤1099511627776)(h:fV s.data.toList)(P:List UInt8)(hP:P=s.data.toList.take (s.size-4)) :
  Calls prog 57 #[.string s] w λe w'=>gW w P e w':=by
 have H:=hid h;have HP:=hid hP;clear h hP
 go_enter func57,ntmps57
 go_wp2_with fail
 refine(fW s _ (by unfold maxLen;omega) H.out).mono ?_;rintro e w1 ⟨t,ht,rfl,hb1⟩;have htl:t.size≤1099511627776:=by rw[ao ht,List.length_take];omega
 have HT:=hid (ht.trans HP.out.symm);clear ht;have hsz:=hb1.size;simp at hsz;have hz:w1.heap[w.heap.size]?=some (.cells #[.int .i64 0,.slice none 0 0] 42 (0,0)):=by rw[hb1.block _ (by simp)];exact heap_alloc_new _ _
 have HZ1:=hid hz;clear hz;have B1:=hid (ax (hb1.mono (by simp)))
 go_wp2_with fail
 refine(bf t _ htl).mono ?_;rintro e w2 ⟨rfl,h2,hb2⟩;obtain⟨p,hp⟩:∃p,p=w1.heap.size:=⟨_,rfl⟩;rw[← hp]at h2 ⊢;have hpw:w.heap.size<p:=by omega
 have HPP:=hid hp;clear hp;have H2:=hid h2;have B2:=hid (B1.out.trans (hb2.mono B1.out.size));have HZ2:=hid ((Fr.pure (S:=λ_=>False) hb2).heapAt HZ1.out (λhf=>hf))
 go_wp2_with fail
 refine(gy _ p t st0 H2.out 4 (by omega)).mono ?_;rintro e w3 ⟨r4,sa,hr4,hsa,rfl,h3,hf3⟩;have H3:=hid h3;have HZ3:=hid (hf3.heapAt HZ2.out (by omega));have B3:=hid (B2.out.trans (hf3.below (B:=w.heap.size) B2.out.size (λi hi e=>by omega)));have HR4:=hid hr4;have HSA:=hid hsa;clear h2 h3 hr4 hsa;by_cases hmag:r4.data.toList=fY
 ·have hcmp:(r4.toList == [109,97,110,49])=true:=by rw[ByteArray.toList_eq,hmag];rfl
  have HMAG:=hid hmag;clear hmag
  go_wp2_with fail
  refine(gx _ p t _ H3.out).mono ?_;rintro e w4 ⟨g,sb,hsb,rfl,h4,hf4⟩;have H4:=hid h4;have HSB:=hid hsb;have HZ4:=hid (hf4.heapAt HZ3.out (by omega));have B4:=hid (B3.out.trans (hf4.below (B:=w.heap.size) B3.out.size (λi hi e=>by omega)));have B4a:=hid (B4.out.alloc B4.out.size (.cells #[.int .i64 (wrap64 (g:Int)),.slice none 0 0] 42));have hpl:=h4.lt;clear h4 hsb
  go_wp2_with fail
  obtain⟨m,hm⟩:∃m,m=w4.heap.size:=⟨_,rfl⟩;have H4':=hid (H4.out.kept ((Fr.refl (λ_=>False) w4).alloc (.cells #[.int .i64 (wrap64 (g:Int)),.slice none 0 0] 42)) (λhf=>hf));have HZ4':=hid (((Fr.refl (λ_=>False) w4).alloc (.cells #[.int .i64 (wrap64 (g:Int)),.slice none 0 0] 42)).heapAt HZ4.out (λhf=>hf));have HM:=hid (heap_alloc_new w4 (.cells #[.int .i64 (wrap64 (g:Int)),.slice none 0 0] 42));rw[← hm]at HM ⊢;have hmp:p<m:=by omega
  clear hm
  generalize (w4.alloc (.cells #[.int .i64 (wrap64 (g:Int)),.slice none 0 0] 42))=w4a at *
  refine(gX _ p t _ H4'.out).mono ?_;rintro e w5 ⟨n,sc,hsc,hn16,rfl,h5,hf5⟩;have H5:=hid h5;have HSC:=hid hsc;have HZ5:=hid (hf5.heapAt HZ4'.out (by omega));have HM5:=hid (hf5.heapAt HM.out (by omega));have B5:=hid (B4a.out.trans (hf5.below (B:=w.heap.size) B4a.out.size (λi hi e=>by omega)));clear h5 hsc
  go_wp2_with fail
  go_loopw [29] (λi wr=>∃(k:Nat) (acc:bI) (st:bc) (v:Value),i = .int .u16 (k:Int)∧RdLoop w5 wr t n sc p m (wrap64 (g:Int)) k acc st v) (λi _=>n-(intOf i).toNat)
  case atStart=>exact⟨0,[],sc,.slice none 0 0,rfl,⟨by omega,rfl,rfl,rfl,H5.out,HM5.out,World.ownsRow_nil _ _ _ _,Fr.refl _ _,by simp[Value.ownBlock]⟩⟩
  case round=>
   obtain⟨k,acc,st,v,rfl,hL⟩:=hrel;have HL:=hid hL;clear hL;by_cases hlt:k<n
   ·have hcm:wr.cell? ⟨m,1,none⟩=some v:=by rw[cell_of_row _ _ _ _ _ _ HL.out.box];rfl
    have hfm:wr.frozen? ⟨m,1,none⟩=false:=frozen_of_row _ _ _ _ _ HL.out.box;have hml:m<wr.heap.size:=lt_of_block HL.out.box;have hvm:v.ownBlock≠some m:=by
     intro e;have:=HL.out.far m e;have:=lt_of_block HM5.out;omega
    have hvp:v.ownBlock≠some p:=by
     intro e;have:=HL.out.far p e;have:=lt_of_block HM5.out;omega
    obtain⟨a0,n0,c0,rfl⟩:=aB HL.out.own;have hown:=hid HL.out.own;have HBX:=hid HL.out.box;have HRD:=hid HL.out.rd;have tok1:True:=trivial;have tok2:True:=trivial;obtain⟨i0,hi,hz0,hz1,hz2⟩:=info_parts Tryz.infoEntry;have HI:=hid hi;have HZ0:=hid hz0;have HZ1:=hid hz1;have HZ2:=hid hz2;have hkl:acc.length≤65536:=by have:=HL.out.len;omega
    clear hi hz0 hz1 hz2
    go_wp2_with fail
    go_region_law (first
     | (go_simp;go_at_call 123;have _t:=tok1;refine(gx wr.drew p t st HRD.out).mono ?_;rintro e w6 ⟨x,sd,hsd,rfl,h6,hf6⟩;have hcm:=hf6.cellAt (show World.cell? wr.drew ⟨m,1,none⟩=_ from hcm) (by omega);have hs6:m<w6.heap.size:=Nat.lt_of_lt_of_le hml hf6.size;have HBX6:=hid (hf6.heapAt (show wr.drew.heap[m]?=_ from HBX.out) (by omega));clear tok1)
     | (go_simp;go_at_call 123;have _t:=tok2;refine(gx _ p t sd h6).mono ?_;rintro e w7 ⟨y,se,hse,rfl,h7,hf7⟩;have hcm:=hf7.cellAt hcm (by omega);have hs7:m<w7.heap.size:=Nat.lt_of_lt_of_le hs6 hf7.size;have HBX7:=hid (hf7.heapAt HBX6.out (by omega));clear tok2)
     | (refine step_append_lies _ (by rfl) _ _ _ (by rfl) 0 48 i0 _ 2 16 underlying40 HI.out HZ0.out HZ1.out HZ2.out rfl (by omega) _ acc.length _ (by rfl) (((hf7.ownsRow (hf6.ownsRow (World.ownsRow.drew hown.out) (λg e h=>hvp (by rw[e,h]))) (λg e h=>hvp (by rw[e,h]))).alloc _)) ⟨w7.heap.size,0,none⟩ 1 1 [.int .i64 (IntKind.i64.wrap (x:Int)),.int .i64 (IntKind.i64.wrap (y:Int))] (by rfl) (by rfl) (aC rfl rfl) (by simp[Value.oneCell']) (by omega) (by unfold maxLen;omega) (by omega) (Nat.zero_le _) (w7.heap.size+1) (by simp) ?_;intro gg cap w8 hown8 hgrow8 hat8 hlt8;have HBX8:=hid ((hgrow8.block m (Nat.lt_of_lt_of_le hs7 (by simp)) (λe=>hvm e.symm)).trans ((Below.heap_alloc _ _ _ hs7).trans HBX7.out));have hc8:w8.cell? ⟨m,1,none⟩=some (.slice a0 n0 c0):=(cell_of_row w8 m 1 _ _ _ HBX8.out).trans rfl;have hf8:=frozen_of_row w8 m 1 _ _ HBX8.out))
    all_goals go_wp2
    all_goals
     go_roundw
     case rel=>exact⟨k+1,_,se,_,by go_num,HL.out.next hlt hmp (lt_of_block HM5.out) hsd hse hf6 h7 hf7 hown8 hgrow8 rfl hat8⟩
     case measure=>simp[intOf];omega
   ·have hkn:k=n:=by have:=HL.out.le;omega
    have hnn:n-k=0:=by omega
    have HEN:=hid HL.out.ents;have HLA:=hid HL.out.last;have HALL:=hid (show gC t.data.toList=(i64 g,acc,st)from gR HSA.out HSB.out HSC.out (by rw[HEN.out,hnn];simp[gB]) (by rw[HLA.out,hnn];rfl));have HZR:=hid (HL.out.fr.heapAt HZ5.out (by omega));have hr0:wr.cell? ⟨w.heap.size,0,none⟩=some (.int .i64 0):=(cell_of_row _ _ _ _ _ _ HZR.out).trans rfl;have hr1:wr.cell? ⟨w.heap.size,1,none⟩=some (.slice none 0 0):=(cell_of_row _ _ _ _ _ _ HZR.out).trans rfl;have hrf0:wr.frozen? ⟨w.heap.size,0,none⟩=false:=frozen_of_row _ _ _ _ _ HZR.out;have hrf1:wr.frozen? ⟨w.heap.size,1,none⟩=false:=frozen_of_row _ _ _ _ _ HZR.out;have hm0:wr.cell? ⟨m,0,none⟩=some (.int .i64 (wrap64 (g:Int))):=(cell_of_row _ _ _ _ _ _ HL.out.box).trans rfl;have hm1:wr.cell? ⟨m,1,none⟩=some v:=(cell_of_row _ _ _ _ _ _ HL.out.box).trans rfl;have hrl:w.heap.size<wr.heap.size:=lt_of_block HZR.out;have HBEL:=hid (B5.out.trans (HL.out.fr.below (B:=w.heap.size) B5.out.size (λi hi e=>by omega)));obtain⟨a0,n0,c0,rfl⟩:=aB HL.out.own;clear hkn hnn;by_cases hend:st.ended t.size=0
    ·go_wp2_with fail
     refine(bF _ p t st HL.out.rd).mono ?_;rintro e w6 ⟨rfl,nq,rfl⟩;rw[hend];have HEND:=hid hend;clear hend
     go_wp2_with fail
     refine(bQ (wr.drewN nq) (wrap64 (g:Int)) _ acc (show bJ wr _ acc from HL.out.own.at) (by have:=HL.out.len;have:=HL.out.le;omega)).mono ?_;rintro e w7 ⟨rfl,hb7⟩;have hq:∀b j,b<wr.heap.size→w7.cell? ⟨b,j,none⟩=wr.cell? ⟨b,j,none⟩:=λb j h=>hb7.cell (p:=⟨b,j,none⟩) h;have hqf:∀b j,b<wr.heap.size→w7.frozen? ⟨b,j,none⟩=wr.frozen? ⟨b,j,none⟩:=λb j h=>hb7.frozen (p:=⟨b,j,none⟩) h;have hml:m<wr.heap.size:=lt_of_block HL.out.box;rw[← hq _ _ hrl]at hr0 hr1;rw[← hqf _ _ hrl]at hrf0 hrf1;rw[← hq _ _ hml]at hm0 hm1;clear hq hqf;cases hmay:bL (wrap64 (g:Int)) acc
     ·have HMAY:=hid hmay
      clear hmay;go_wp2;refine bodyPost_ret (v:=.tuple #[gG,.int .i64 4]) (by simp[results,results57,go_sem,hr0,hr1];rfl) rfl ⟨?_,?_⟩
      ·exact(((HBEL.out.trans ((show Below wr.heap.size wr w7 from⟨hb7.os,hb7.tape,hb7.output,hb7.size,hb7.block⟩).mono HBEL.out.size)).setCell (p:=⟨w.heap.size,0,none⟩) (Nat.le_refl _) _).setCell (p:=⟨w.heap.size,1,none⟩) (Nat.le_refl _) _)
      ·rw[gU (show gC P=_ from HT.out▸HALL.out) (.inr HMAY.out)]
     ·have HMAY:=hid hmay
      clear hmay;go_wp2;have HOWN:gO ((w7.setCell ⟨w.heap.size,0,none⟩ (.int .i64 (wrap64 (g:Int)))).setCell ⟨w.heap.size,1,none⟩ (.slice a0 n0 c0)) (.slice a0 n0 c0) acc:=by
       have h7:gO w7 (.slice a0 n0 c0) acc:=(Fr.pure (S:=λ_=>False) (show Below wr.heap.size wr w7 from⟨hb7.os,hb7.tape,hb7.output,hb7.size,hb7.block⟩)).ownsRow HL.out.own (λ_ _ hf=>hf);exact(((Fr.refl (λi=>i=w.heap.size) w7).setCell ⟨w.heap.size,0,none⟩ (λ_=>rfl) _).setCell ⟨w.heap.size,1,none⟩ (λ_=>rfl) _).ownsRow h7 (λb hb e=>by have:=HL.out.far b hb;have:=B5.out.size;have:=lt_of_block HZ5.out;omega)
      refine bodyPost_ret (v:=.tuple #[.agg #[.int .i64 (wrap64 (g:Int)),.slice a0 n0 c0],.int .i64 0]) (by simp[results,results57,go_sem,hr0,hr1]) rfl ⟨?_,?_⟩
      ·exact(((HBEL.out.trans ((show Below wr.heap.size wr w7 from⟨hb7.os,hb7.tape,hb7.output,hb7.size,hb7.block⟩).mono HBEL.out.size)).setCell (p:=⟨w.heap.size,0,none⟩) (Nat.le_refl _) _).setCell (p:=⟨w.heap.size,1,none⟩) (Nat.le_refl _) _)
      ·rw[gV (show(st0.take P 4).1=fY from by rw[← HT.out,← HR4.out];exact HMAG.out) (show gC P=_ from HT.out▸HALL.out) (by rw[← HT.out,ak];exact HEND.out) HMAY.out]
       exact⟨_,HOWN,λb hb=>Nat.le_trans B5.out.size (HL.out.far b hb),rfl⟩
    ·have hendb:(st.ended t.size == 0)=false:=by simpa using hend
     have HEND:=hid hend;clear hend
     go_wp2_with fail
     refine(bF _ p t st HL.out.rd).mono ?_;rintro e w6 ⟨rfl,nq,rfl⟩;go_wp2;refine bodyPost_ret (v:=.tuple #[gG,.int .i64 4]) (by simp[results,results57,go_sem,hr0,hr1];rfl) rfl ⟨?_,?_⟩
     ·exact(((HBEL.out.trans ((Fr.refl (λ_=>False) wr).drewN nq |>.below HBEL.out.size (λ_ _ hf=>hf))).setCell (p:=⟨w.heap.size,0,none⟩) (Nat.le_refl _) _).setCell (p:=⟨w.heap.size,1,none⟩) (Nat.le_refl _) _)
     ·rw[gU (show gC P=_ from HT.out▸HALL.out) (.inl (by rw[← HT.out,ak];exact HEND.out))]
 ·have hcmp:(r4.toList == [109,97,110,49])=false:=by rw[ByteArray.toList_eq];exact beq_eq_false_iff_ne.2 hmag
  have HMAG:=hid hmag;clear hmag;have hr0:w3.cell? ⟨w.heap.size,0,none⟩=some (.int .i64 0):=(cell_of_row _ _ _ _ _ _ HZ3.out).trans rfl;have hr1:w3.cell? ⟨w.heap.size,1,none⟩=some (.slice none 0 0):=(cell_of_row _ _ _ _ _ _ HZ3.out).trans rfl;have hrf0:w3.frozen? ⟨w.heap.size,0,none⟩=false:=frozen_of_row _ _ _ _ _ HZ3.out;have hrf1:w3.frozen? ⟨w.heap.size,1,none⟩=false:=frozen_of_row _ _ _ _ _ HZ3.out;go_wp2;refine bodyPost_ret (v:=.tuple #[gG,.int .i64 4]) (by simp[results,results57,go_sem,hr0,hr1];rfl) rfl ⟨?_,?_⟩
  ·exact((B3.out.setCell (p:=⟨w.heap.size,0,none⟩) (Nat.le_refl _) _).setCell (p:=⟨w.heap.size,1,none⟩) (Nat.le_refl _) _)
  ·rw[gT (by rw[← HT.out,← HR4.out];exact HMAG.out)]
end
end Go.Proofs.YthjjgcfdhkhelaaGreatDoor
