/- maint.made at the last generation. -/
import Derived.Test.YthjjgcfdhkhelaaGreatDoorQBe
import Derived.Test.YthjjgcfdhkhelaaGreatDoorQBg
set_option maxHeartbeats 8000000
set_option maxRecDepth 100000
open Go.Lib(hid)
open Go.Proofs.Tryz
namespace Go.Proofs.YthjjgcfdhkhelaaGreatDoor
section
open Go.RowKit
def xm (w:World)(F:Nat→Prop)(g p b:Nat)(n:Nat)(r:(cZ×kR)×Int)(e:Ending)(w':World):Prop:=e = .returned (.tuple #[.int .i64 (if r.2=0 then (n:Int) else 0),.int .i64 r.2])∧tq w F g p b r.1 w'
theorem xn {w:World}{F:Nat→Prop}{g p b n:Nat}{r:(cZ×kR)×Int}{s:cZ×kR}{w':World}(hr:r=(s,0))(h:tq w F g p b s w'):xm w F g p b n r (.returned (.tuple #[.int .i64 (n:Int),.int .i64 0])) w':=by subst hr;exact⟨rfl,h⟩
theorem xo {w:World}{F:Nat→Prop}{g p b n:Nat}{r:(cZ×kR)×Int}{s:cZ×kR}{c:Int}{w':World}(hr:r=(s,c))(hc:c≠0)(h:tq w F g p b s w'):xm w F g p b n r (.returned (.tuple #[.int .i64 0,.int .i64 c])) w':=by subst hr;exact⟨by simp[hc],h⟩
theorem xp (w:World)(F:Nat→Prop)(g p b:Nat)(st:cZ)(l:kR)(h0:tp w F g p b st l)(x:ByteArray)(hp:iw x.data.toList)(hn:l.next<1048576)(hg:l.lastIx.good+16+x.data.toList.length≤1048576)(w0:World)(F0:Nat→Prop)(n0:Nat)(r0:(cZ×kR)×Int)(hQ:∀e w',xm w F g p b l.next (lr st l x.data.toList) e w'→xm w0 F0 g p b n0 r0 e w'){u2 u3 u4 u5 u6 u7 u8 u9 u10 u11 u12 u13 u14 u15 u16 u17 u18 u19 u20 u21 u22 u23 u24 u25 u26 u27 u28 u29 u30 u31 u32 u33 u34 u35 u36 u37 u38 u39 u40 u41 u42 u43 u44 u45 u46 u47 u48 u49 u50 u51 u52 u53 u54 u55 u56 u57 u58 u59 u60 u61 u62 u63 u64 u65 u66 u67 u68 u69 u70 u71 u72 u73 u74 u75 u76 u77 u78 u79 u80 u81 u82 u83 u84 u85 u86:Value} :
  Code.wp prog (mq 5 (Tryz.f11.body.getD .skip)) (bodyPost prog Tryz.f11 λe w'=>xm w0 F0 g p b n0 r0 e w') { tmps:=(List.toArray (.pointer (some ⟨g,0,none⟩) :: .string x::u2::u3::u4::u5::u6::u7::u8::u9::u10::u11::u12::u13::u14::u15::u16::u17::u18::u19::u20::u21::u22::u23::u24::u25::u26::u27::u28::u29::u30::u31::u32::u33::u34::u35::u36::u37::u38::u39::u40::u41::u42::u43::u44::u45::u46::u47::u48::u49::u50::u51::u52::u53::u54::u55::u56::u57::u58::u59::u60::u61::u62::u63::u64::u65::u66::u67::u68::u69::u70::u71::u72::u73::u74::u75::u76::u77::u78::u79::u80::u81::u82::u83::u84::u85::u86::[])),defers:=[] } w:=by
 have H0:=hid h0;have HQQ:=hid hQ;clear hQ;have hfew:=h0.ok.few;have hpos:=h0.ok.pos;have hlen:=h0.ok.len;have hx1:1≤x.size:=by have:=hp.1;rw[ak]at this;omega
 have hx2:x.size≤4096:=by have:=hp.2;rw[ak]at this;omega
 have HP:=hid hp;have HG:=hid hg;have hgood:l.lastIx.good≤1048576:=h0.ok.last.2.1;obtain⟨ev,hev0,hev1,hev2,hev3⟩:=tG h0.ok.cfg;have HEV:=hid (show l.ev=ev from hev3);have hgF:F g:=by obtain⟨_,_,_,_,h5,h6,_⟩:=h0.lg;exact h6 g h5.sg
 have hgfar:=h0.far g hgF;have hgp:=hgfar.1;have hgb:=hgfar.2.1;clear h0 hp hg hev0 hev3 hgfar
 conv=>arg 2;whnf
 go_wp2_with fail
 refine(sZ w F g p l H0.out.lg (by omega) (by omega)).mono ?_;rintro e w2 ⟨rfl,hb2⟩;have HB2:=hid hb2;clear hb2
 go_wp2_with fail
 refine(nR l.next x w2 hn hx1 hx2).mono ?_;rintro e w3 ⟨⟨f,hf,rfl⟩,hb3⟩;have hbw:=HB2.out.trans (hb3.mono HB2.out.size);have henv:=H0.out.pure hbw;have HF:=hid hf;have hfs:f.size≤140737488355328:=by have h1:=ao hf;simp only at h1;rw[ir,ak]at h1;omega
 obtain⟨_,_,_,_,hc,_⟩:=henv.lg;obtain⟨g0,_⟩:=hc.cs;have hgl:=hc.gl;have HENV:=hid henv;have HBW:=hid hbw;have HN:=hid (λW (hb:Below w3.heap.size w3 W)=>td W (bS hb henv.pow) F g p l (henv.lg.pure hb) (by omega) (by omega));have HLN:=hid henv.ok.name_len;clear henv hbw hb3 hf hc
 go_wp2_with fail
 go_region_held3 (λw'=>w'.cell? ⟨g,0,none⟩=some (.pointer (some ⟨p,0,none⟩))) (first|exact g0|exact c9|exact c8|go_keep) (first
  | (go_at_call 52;refine(HN.out _ (by first|exact Below.refl _ _|exact(Below.refl _ _).drew)).mono ?_;rintro e w4 ⟨⟨r,hr,rfl⟩,hb4⟩;have HR:=hid hr;have HRL:=hid (show r.size≤maxLen by have:=ao hr;have:=HLN.out;unfold maxLen;omega);have HB4:=hid ((show Below w3.heap.size w3 _ by first|exact Below.refl _ _|exact(Below.refl _ _).drew).trans hb4);have c9:=(hb4.cell (p:=⟨g,0,none⟩) hgl).trans g0;clear hr hb4)
  | (go_at_call 51;refine(eU _ p b st (HENV.out.dk.pure HB4.out) r f HRL.out hfs).mono ?_;rintro e w5 ⟨rfl,hd5,hf5⟩;have HD5:=hid hd5;have HF5:=hid (And.intro hf5 HR.out);have c8:=db.ofD hf5 c9 hgp hgb;clear hd5 hf5))
 have hcode:eR st r.data.toList f.data.toList=eR st l.name (ip l.next x.data.toList):=by rw[HF5.out.2,HF.out]
 obtain⟨RR,hRR⟩:∃RR,RR=eR st l.name (ip l.next x.data.toList):=⟨_,rfl⟩;rw[hcode,← hRR]at HD5 ⊢;have HPUT:=hid (show lr st l x.data.toList=if RR.2≠0 then ((RR.1,l),RR.2) else ((RR.1,l.add x.data.toList),0)from by unfold lr;rw[hRR]);have hfr:dY p b w w5:=(Fr.pure (HBW.out.trans (HB4.out.mono HBW.out.size))).trans HF5.out.1;have henv5:=H0.out.disk HD5.out hfr;have HENV5:=hid henv5;have HFR:=hid hfr;clear hcode hRR hfr;by_cases hz:RR.2=0
 ·have HRES:=hid (HPUT.out.trans (if_neg (by simpa using hz)))
  rw[hz];clear hz;obtain⟨sv,iv,xs,S,hc5,hSF,hsF,_⟩:=henv5.lg;have hxl:=hc5.len;have HLAST:=hid (hc5.last (by omega));have HC5:=hid (And.intro hc5 (And.intro hSF hsF));have HO:=hid (sY w5 S g p l sv iv xs hc5 (by omega) (by omega));have hXX:0<xs.length:=by omega
  obtain⟨X,hX⟩:∃X,X=xs[xs.length-1]'(by omega):=⟨_,rfl⟩;rw[← hX]at HLAST HO;have HX:=hid hX;have hq9:l.lastIx.1≤l.next:=by unfold kR.next kP.next;omega
  have hml:(iV l.ev l.lastIx.1 l.lastIx.2).length≤2097152:=by
   have h1:=pI (ev:=l.ev) (by rw[HEV.out];omega) l.lastIx.1 l.lastIx.2;have h2:l.next=l.lastIx.1+l.lastIx.2.length:=rfl;omega
  clear henv5 hc5 hSF hsF hX
  go_wp2_with fail
  refine HO.out.mono ?_;rintro e w6 ⟨rfl,hb6⟩;have HB6:=hid hb6;unfold sW;clear hb6
  go_wp2_with fail
  refine(pm w6 X.1 l.ev l.lastIx.1 l.next l.lastIx.good x.size X.2 _ (HLAST.out.pure HB6.out) (by rw[HEV.out];omega) (by rw[HEV.out];omega) hq9 hn hml (by omega) hx1 hx2).mono ?_;rintro e w7 ⟨rfl,sv',hix,hwent,hfx⟩;have HIX:=hid (And.intro hix (And.intro hwent hfx));clear hix hwent hfx;go_wp2;refine bodyPost_ret (v:=.tuple #[.int .i64 (l.next:Int),.int .i64 0]) (by simp[results,results11,go_sem]) rfl ?_;have hxx:=HX.out;subst hxx;have hi:=HIX.out;rw[← ak x]at hi;exact HQQ.out _ _ <| xn HRES.out (xl H0.out (HENV5.out.pure HB6.out) (HFR.out.trans (Fr.pure HB6.out)) HP.out hn HG.out (HC5.out.1.pure HB6.out) HC5.out.2.1 HC5.out.2.2 hXX hi.1 hi.2.1 hi.2.2)
 ·have HRES:=hid (HPUT.out.trans (if_pos (by simpa using hz)))
  have hne:(RR.2 == 0)=false:=by simpa using hz
  have hnn:(RR.2 != 0)=true:=by simpa using hz
  have HZ:=hid hz;clear hz henv5;go_wp2;refine bodyPost_ret (v:=.tuple #[.int .i64 0,.int .i64 RR.2]) (by simp[results,results11,go_sem]) rfl ?_;exact HQQ.out _ _ <| xo HRES.out HZ.out ⟨F,HENV5.out,HFR.out.mono λk _ h=>.inr h,λk hk=>.inl hk⟩
structure AnewOk (l:kR) (x:qT):Prop where
 lt:x.1<l.segs.length
 pays:vE x.2
 q:∃q:Nat,(l.segs[x.1]).2=(q:Int)∧q<1048576∧q+x.2.length≤1048576∧(iR q x.2).length≤1048576∧x.2.length≤1000000
theorem vK (A:List (qT×Value))(i:Nat)(h:i<A.length):(vh A)[i*2]?=some (.int .i64 (A[i].1.1:Int))∧(vh A)[i*2+1]?=some A[i].2:=by
 induction A generalizing i with
 | nil=>simp at h
 | cons x l ih=>
  rcases i with _|i
  ·simp[vh]
  ·have:=ih i (by simpa using h)
   simp only[vh,List.flatMap_cons,List.getElem_cons_succ]at this ⊢;rw[show(i+1)*2=i*2+1+1 from by omega];simpa using this
theorem vj.shape {w:World}{base:Nat}{v:Value}{A:List qT}(h:vj w base v A):∃a c,v = .slice a A.length c:=by
 obtain⟨B,_,h,_⟩:=h
 rcases h.2 with⟨hv,hn⟩|⟨g,cap,cur,hv,_⟩
 ·exact⟨none,0,by rw[hv,hn]⟩
 ·exact⟨_,cap,hv⟩
theorem vj.at {w:World}{base:Nat}{a:Option Addr}{n c:Nat}{A:List qT}(h:vj w base (.slice a n c) A)(k:Nat)(hk:k<A.length) :
  ∃(g:Nat) (ta:Option Addr) (tc:Nat),a=some ⟨g,0,none⟩∧base≤g∧w.cell? ⟨g,k*2,none⟩=some (.int .i64 (A[k].1:Int))∧w.cell? ⟨g,k*2+1,none⟩=some (.slice ta A[k].2.length tc)∧rZ w (.slice ta A[k].2.length tc) A[k].2∧∀y,(Value.slice ta A[k].2.length tc).ownBlock=some y→base≤y:=by
 obtain⟨B,rfl,h,hb⟩:=h;rw[List.length_map]at hk h
 rcases h.2 with⟨hv,hn⟩|⟨g,cap,cur,hv,hge,_⟩
 ·omega
 ·cases hv
  obtain⟨h1,h2⟩:=vK B k hk;obtain⟨h3,h4⟩:=hb _ (List.getElem_mem hk);obtain⟨ta,tc,e,h5⟩:=h3;have e1:(B.map (·.1))[k]'(by simpa using hk)=B[k].1:=by simp
  rw[e1];rw[e]at h2;refine⟨g,ta,tc,rfl,hge,?_,?_,⟨ta,tc,rfl,h5⟩,λy hy=>h4 y (by rw[e];exact hy)⟩
  ·rw[World.ownsRow.cellAt h (k*2) (by omega)];exact h1
  ·rw[World.ownsRow.cellAt h (k*2+1) (by omega)];exact h2
def zL (W1 wx:World)(B:Nat)(l:kR)(t:Value):Prop:=∃nb gg cap,t = .pointer (some ⟨nb,0,none⟩)∧wx.heap[nb]?=some (.cells #[.int .i64 (l.gen+1),.slice (some ⟨gg,0,none⟩) l.segs.length cap] 42 (0,0))∧B+2≤nb∧B+2≤gg∧gg≠nb∧bJ wx (.slice (some ⟨gg,0,none⟩) l.segs.length cap) l.segs∧(∀j:Nat,wx.frozen? ⟨gg,j,none⟩=false)∧Below (B+2) W1 wx
theorem zM {w:World}{base n size:Nat}{v:Value}{T:TypeId}{xs:List Value}(h:w.ownsRow base T size v n xs):w.ownsRow 0 T size v n xs:=by
 obtain⟨h1,h2⟩:=h;refine⟨h1,?_⟩
 rcases h2 with h2|⟨g,cap,cur,hv,_,h3⟩
 ·exact .inl h2
 ·exact .inr ⟨g,cap,cur,hv,Nat.zero_le _,h3⟩
theorem zN {w:World}{base g n cap size:Nat}{T:TypeId}{xs:List Value}(h:w.ownsRow base T size (.slice (some ⟨g,0,none⟩) n cap) n xs):∀j:Nat,w.frozen? ⟨g,j,none⟩=false:=by
 rcases h.2 with⟨hv,_⟩|⟨g',cap',cur,hv,_,hc,_⟩
 ·cases hv
 ·cases hv
  exact λj=>frozen_of_row _ _ _ _ _ hc
theorem zP {W1 w8:World}{B gg cap:Nat}{l:kR}(hown:w8.ownsRow (B+2) 48 2 (.slice (some ⟨gg,0,none⟩) (0+l.segs.length) cap) (0+l.segs.length) ([]++gJ l.segs))(hb:Below (B+2) W1 w8)(hz:W1.heap.size=B+2) :
  zL W1 (w8.alloc (.cells #[.int .i64 (l.gen+1),.slice (some ⟨gg,0,none⟩) l.segs.length cap] 42)) B l (.pointer (some ⟨w8.heap.size,0,none⟩)):=by
 rw[Nat.zero_add]at hown;have h1:gg<w8.heap.size:=sT hown rfl;have h2:B+2≤gg:=gt hown rfl;have h3:=hb.size;have h4:=hown.alloc (.cells #[.int .i64 (l.gen+1),.slice (some ⟨gg,0,none⟩) l.segs.length cap] 42);exact⟨_,gg,cap,rfl,heap_alloc_new _ _,by omega,h2,by omega,gO.at (zM h4),zN h4,hb.alloc (by omega) _⟩
theorem zQ {W1 w8:World}{B nb gg cap:Nat}{l:kR}(hown:w8.ownsRow (B+2) 48 2 (.slice (some ⟨gg,0,none⟩) (0+l.segs.length) cap) (0+l.segs.length) ([]++gJ l.segs))(hb:Below (B+2) W1 w8)
  (hq:w8.heap[nb]?=some (.cells #[.int .i64 0,.slice none 0 0] 42 (0,0))) (hn:B+2≤nb) (hne:gg≠nb) (hz:W1.heap.size=B+2) :
  zL W1 ((w8.setCell ⟨nb,0,none⟩ (.int .i64 (l.gen+1))).setCell ⟨nb,1,none⟩ (.slice (some ⟨gg,0,none⟩) l.segs.length cap)) B l (.pointer (some ⟨nb,0,none⟩)):=by
 rw[Nat.zero_add]at hown;have h2:B+2≤gg:=gt hown rfl;have hf:Fr (λk=>k=nb) w8 ((w8.setCell ⟨nb,0,none⟩ (.int .i64 (l.gen+1))).setCell ⟨nb,1,none⟩ (.slice (some ⟨gg,0,none⟩) l.segs.length cap)):=((Fr.refl (λk=>k=nb) w8).setCell ⟨nb,0,none⟩ (λ_=>rfl) _).setCell ⟨nb,1,none⟩ (λ_=>rfl) _;have h4:=hf.ownsRow hown (λy hy e=>by cases hy;exact hne e);refine⟨nb,gg,cap,rfl,?_,hn,h2,hne,gO.at (zM h4),zN h4,hb.trans (hf.below (by have:=hb.size;omega) (λk hk e=>by omega))⟩;exact heap_setCell_same _ _ _ _ _ _ (heap_setCell_same _ _ _ _ _ _ hq)
theorem rZ.past {W1 wc wr:World}{gg:Nat}{v:Value}{l:List (List UInt8)}(h:rZ W1 v l)(hb:Below W1.heap.size W1 wc)(hf:Fr (λj=>j=gg) wc wr)(hg:W1.heap.size≤gg):rZ wr v l:=by
 obtain⟨a,c,rfl,h⟩:=h;refine⟨a,c,rfl,λi hi=>?_⟩;obtain⟨g,x,h1,h2,h3⟩:=h i hi;exact⟨g,x,h1,h2,hf.cellAt (vd h3 hb) (by have h4:g<W1.heap.size:=aw h3;show ¬g=gg;omega)⟩
theorem zR (a:List (List UInt8×List UInt8))(x y:List UInt8):vB (a++[(x,y)])=vB a++[encStr x,encStr y]:=by simp[vB]
theorem zS (l:kR)(A:List qT)(k:Nat)(hk:k<A.length):qW l (A.take (k+1))=(qW l (A.take k)).set A[k].1 (l.gen+1,((l.segs[A[k].1]?).getD (0,0)).2):=by
 unfold qW;rw[List.take_succ_eq_append_getElem hk,List.foldl_append];rfl
theorem zT (l:kR)(A:List qT)(k:Nat)(hk:k<A.length):(qX l A).take (k+1)=(qX l A).take k++[(b9 (l.gen+1) ((l.segs[A[k].1]?).getD (0,0)).2,iR ((l.segs[A[k].1]?).getD (0,0)).2.toNat A[k].2)]:=by
 have hk2:k<(qX l A).length:=by unfold qX;simpa using hk
 rw[List.take_succ_eq_append_getElem hk2];congr 2;unfold qX;exact List.getElem_map _
theorem zU (l:kR):∀(A:List qT) (s:bI),(s.length=l.segs.length∧∀i (h:i<s.length) (h':i<l.segs.length),s[i].2=l.segs[i].2) →
  (A.foldl (λs x=>s.set x.1 (l.gen+1,((l.segs[x.1]?).getD (0,0)).2)) s).length=l.segs.length∧∀i (h:i<(A.foldl (λs x=>s.set x.1 (l.gen+1,((l.segs[x.1]?).getD (0,0)).2)) s).length) (h':i<l.segs.length),(A.foldl (λs x=>s.set x.1 (l.gen+1,((l.segs[x.1]?).getD (0,0)).2)) s)[i].2=l.segs[i].2
 | [],s,h=>h
 | x::r,s,h=>by
  refine zU l r _ ⟨by rw[List.length_set];exact h.1,λi hi hi'=>?_⟩;rw[List.getElem_set]
  split
  ·rename_i e
   subst e;rw[List.getElem?_eq_getElem hi'];rfl
  ·exact h.2 i (by rw[List.length_set]at hi;exact hi) hi'
theorem zW (l:kR)(A:List qT):(qW l A).length=l.segs.length:=(zU l A l.segs ⟨rfl,λ_ _ _=>rfl⟩).1
theorem zX (l:kR)(A:List qT)(i:Nat)(h:i<(qW l A).length)(h':i<l.segs.length):(qW l A)[i].2=l.segs[i].2:=(zU l A l.segs ⟨rfl,λ_ _ _=>rfl⟩).2 i h h'
theorem bJ.put {w:World}{gg n cap i:Nat}{S:bI}{x y:Int}(h:bJ w (.slice (some ⟨gg,0,none⟩) n cap) S)(hi:i<S.length)(hy:S[i].2=y):bJ (w.setCell ⟨gg,i*2,none⟩ (.int .i64 x)) (.slice (some ⟨gg,0,none⟩) n cap) (S.set i (x,y)):=by
 obtain⟨a,c,e⟩:=h.shape;refine⟨_,cap,by rw[List.length_set];cases e;rfl,.inr ⟨gg,0,rfl,λj hj=>?_⟩⟩;rw[List.length_set]at hj;obtain⟨_,_,e1,h1,h2,_⟩:=h.at j hj;cases e1;simp only[Nat.zero_add]at h1 h2 ⊢;rw[List.getElem_set];by_cases hij:i=j
 ·subst hij
  rw[if_pos rfl];exact⟨World.cell?_setCell_same _ _ _ h1,(World.cell?_setCell_other _ _ _ _ (by simp)).trans (by rw[h2,hy])⟩
 ·rw[if_neg hij]
  exact⟨(World.cell?_setCell_other _ _ _ _ (by simp<;>omega)).trans h1,(World.cell?_setCell_other _ _ _ _ (by simp<;>omega)).trans h2⟩
theorem xq (w:World)(F:Nat→Prop)(g p b:Nat)(st:cZ)(l:kR)(h0:tp w F g p b st l)(x:ByteArray)(hx:x.size≤140737488355328)(hbad:x.size=0∨4096<x.size∨1048576≤l.next) :
  Calls prog 11 #[.pointer (some ⟨g,0,none⟩),.string x] w λe w'=>xm w F g p b l.next (ls st l x.data.toList) e w':=by
 have H0:=hid h0;have hfew:=h0.ok.few;have hpos:=h0.ok.pos;have hlen:=h0.ok.len;have HN:=hid (sZ w F g p l h0.lg (by omega) (by omega));clear h0;by_cases hz:x.size=0
 ·have hl:x.data.toList=[]:=List.eq_nil_of_length_eq_zero (by rw[ak];exact hz)
  have he:x.toList.isEmpty=true:=by rw[ByteArray.toList_eq,hl];rfl
  have he2:x.toList=[]:=by rw[ByteArray.toList_eq,hl]
  have HR:=hid (show ls st l x.data.toList=((st,l),4)from by unfold ls;rw[if_pos hl]);clear hz hbad hl
  go_enter func11,ntmps11
  go_wp2;refine bodyPost_ret (v:=.tuple #[.int .i64 0,.int .i64 4]) (by simp[results,results11,go_sem]) rfl ?_;exact xo HR.out (by decide) (H0.out.stay (Below.refl _ _))
 ·have hne:x.data.toList≠[]:=λe=>hz (by have:=ak x;rw[e]at this;exact this.symm)
  have HR:=hid (show ls st l x.data.toList=((st,l),40)from by unfold ls;rw[if_neg hne,if_pos (by rw[ak];omega)]);have he1:x.toList.isEmpty=false:=by rw[ByteArray.toList_eq,List.isEmpty_eq_false_iff];exact hne
  have he2:¬x.toList=[]:=by rw[ByteArray.toList_eq];exact hne
  clear hne;by_cases hb:4096<x.size
  ·have hd:decide (((x.size:Nat):Int) > 4096)=true:=by simp;omega
   go_enter func11,ntmps11
   go_wp2;refine bodyPost_ret (v:=.tuple #[.int .i64 0,.int .i64 40]) (by simp[results,results11,go_sem]) rfl ?_;exact xo HR.out (by decide) (H0.out.stay (Below.refl _ _))
  ·have hd:decide ((4096:Int)<((x.size:Nat):Int))=false:=by simp;omega
   have hd2:decide ((1048576:Int)≤((l.next:Nat):Int))=true:=by simp;omega
   have hd3:¬(4096:Int)<((x.size:Nat):Int):=by omega
   have hd4:(1048576:Int)≤((l.next:Nat):Int):=by omega
   clear hbad
   go_enter func11,ntmps11
   go_wp2_with (go_at_call 20;refine HN.out.mono ?_;rintro e w2 ⟨rfl,hb2⟩;have HB2:=hid hb2;clear hb2)
   refine bodyPost_ret (v:=.tuple #[.int .i64 0,.int .i64 40]) (by simp[results,results11,go_sem]) rfl ?_;exact xo HR.out (by decide) (H0.out.stay HB2.out)
theorem tq.two {w w1 w':World}{F F1:Nat→Prop}{g p b:Nat}{st:cZ}{l:kR}{s:cZ×kR}(h0:tp w F g p b st l)(f1:Fr (λk=>F k∨k=p∨k=b) w w1)(n1:∀k,F1 k→F k∨w.heap.size≤k)(h:tq w1 F1 g p b s w'):tq w F g p b s w':=by
 obtain⟨F2,e2,f2,n2⟩:=h;have hs:=f1.size;have hp:=h0.dk.lt;have hb:=h0.dk.own.lt;refine⟨F2,e2,f1.then f2 ?_,?_⟩
 ·rintro i hi (hi2|hi2)
  ·rcases n1 i hi2 with h|h
   ·exact .inl h
   ·omega
  ·exact .inr hi2
 ·intro i hi
  rcases n2 i hi with h|h
  ·exact n1 i h
  ·exact .inr (by omega)
theorem tq.before {w w1 w':World}{F:Nat→Prop}{g p b:Nat}{st:cZ}{l:kR}{s:cZ×kR}(h0:tp w F g p b st l)(hb:Below w.heap.size w w1)(h:tq w1 F g p b s w'):tq w F g p b s w':=h.two h0 (Fr.pure hb) λ_ hk=>.inl hk
theorem xr {st:cZ}{l:kR}{pl:List UInt8}(h1:pl≠[])(h2:pl.length≤4096)(h3:l.next<1048576)(hf:lj l.lastIx.good pl.length l.cfg.ss=false) :
  ls st l pl=if lm st l pl.length true≠0 then ((st,l),lm st l pl.length true) else if (lq st l).2≠0 then lq st l else lr (lq st l).1.1 (lq st l).1.2 pl:=by
 unfold ls;rw[if_neg h1,if_neg (by omega)];simp only[hf,Bool.not_false,if_true]
theorem xt {st:cZ}{l:kR}{pl:List UInt8}(h1:pl≠[])(h2:pl.length≤4096)(h3:l.next<1048576)(hf:lj l.lastIx.good pl.length l.cfg.ss=true) :
  ls st l pl=if lm st l pl.length false≠0 then ((st,l),lm st l pl.length false) else lr st l pl:=by
 unfold ls;rw[if_neg h1,if_neg (by omega)];simp only[hf,Bool.not_true,Bool.false_eq_true,if_false]
theorem xu {good n ss:Int}(h:lj good n ss=true)(h2:ss≤65536):good+16+n≤1048576:=by
 unfold lj at h;simp only[Bool.and_eq_true,Bool.or_eq_true,decide_eq_true_eq]at h;omega
theorem xw (w:World)(F:Nat→Prop)(g p b:Nat)(st:cZ)(l:kR)(h0:tp w F g p b st l)(x:ByteArray)(hx1:1≤x.size)(hx2:x.size≤4096)(hn:l.next<1048576) :
  Calls prog 11 #[.pointer (some ⟨g,0,none⟩),.string x] w λe w'=>xm w F g p b l.next (ls st l x.data.toList) e w':=by
 have H0:=hid h0;have hfew:=h0.ok.few;have hpos:=h0.ok.pos;have hlen:=h0.ok.len;have HN:=hid (sZ w F g p l h0.lg (by omega) (by omega));have hne:x.data.toList≠[]:=λe=>by have:=ak x;rw[e]at this;simp at this;omega
 have he1:x.toList.isEmpty=false:=by rw[ByteArray.toList_eq,List.isEmpty_eq_false_iff];exact hne
 have he2:¬x.toList=[]:=by rw[ByteArray.toList_eq];exact hne
 have hd:decide ((4096:Int)<((x.size:Nat):Int))=false:=by simp;omega
 have hd3:¬(4096:Int)<((x.size:Nat):Int):=by omega
 have hd2:decide ((1048576:Int)≤((l.next:Nat):Int))=false:=by simp;omega
 have hd4:¬(1048576:Int)≤((l.next:Nat):Int):=by omega
 have hgood:=h0.ok.last.2.1;have hge:=lX l.lastIx;have hpay:iw x.data.toList:=⟨by rw[ak];omega,by rw[ak];omega⟩;have HPAY:=hid hpay;have hss:64≤l.cfg.ss∧l.cfg.ss≤65536:=by
  have hc:=h0.ok.cfg;unfold kN at hc;simp only[Bool.and_eq_true,decide_eq_true_eq]at hc;omega
 obtain⟨hs1,hs2⟩:=hss;have HNE:=hid hne;have HLE:=hid (show x.data.toList.length≤4096 from by rw[ak];omega);clear hne hpay h0
 go_enter func11,ntmps11
 go_wp2_with (go_at_call 20;refine HN.out.mono ?_;rintro e w2 ⟨rfl,hb2⟩;have HB2:=hid hb2;clear hb2)
 have henv:=H0.out.pure HB2.out;have hws:=HB2.out.size;have HENV:=hid henv;obtain⟨sv,iv,xs,S,hc,_,_,_⟩:=henv.lg;have hxl:=hc.len;obtain⟨_,c1,_,_,_,_,_⟩:=hc.cs;have hgl:=hc.gl;have HO:=hid (λW (hb:Below w2.heap.size w2 W)=>sY W S g p l sv iv xs (hc.pure hb) (by omega) (by omega));have HLAST:=hid (hc.last (by omega));obtain⟨X,hX⟩:∃X,X=xs[xs.length-1]'(by omega):=⟨_,rfl⟩;rw[← hX]at HLAST;have HO2:=hid (λW (hb:Below w2.heap.size w2 W)=>by have h9:=HO.out W hb;rw[← hX]at h9;exact h9);clear henv hc hX HO;cases hfb:lj (l.lastIx.good:Int) (x.size:Int) l.cfg.ss
 all_goals
  have HFB:=hid hfb;clear hfb
  go_region_held3 (λw'=>w'.cell? ⟨g,1,none⟩=some (.int .i64 l.cfg.ss)) (first|exact c1|exact c9|go_keep) (first
   | (go_at_call 46;refine(HO2.out _ (by first|exact Below.refl _ _|exact(Below.refl _ _).drew)).mono ?_;rintro e w3 ⟨rfl,hb3⟩;have HB3:=hid ((show Below w2.heap.size w2 _ by first|exact Below.refl _ _|exact(Below.refl _ _).drew).trans hb3);have c9:=(hb3.cell (p:=⟨g,1,none⟩) hgl).trans c1;unfold sW;clear hb3)
   | (go_at_call 47;refine(oU _ X.1 l.ev l.lastIx.1 l.next l.lastIx.good X.2 _ (HLAST.out.pure HB3.out)).mono ?_;rintro e w4 ⟨rfl,rfl⟩)
   | (go_at_call 45;refine(oG (l.lastIx.good:Int) (x.size:Int) l.cfg.ss _ (by omega) (by omega) (by omega) (by omega) (lj (l.lastIx.good:Int) (x.size:Int) l.cfg.ss) rfl).mono ?_;rintro e w4 ⟨rfl,rfl⟩;rw[HFB.out]))
 ·have HEQ:=hid (xr (st:=st) HNE.out HLE.out hn (by rw[ak];exact HFB.out))
  rw[ak]at HEQ;have henv3:=HENV.out.pure HB3.out;have HENV3:=hid henv3;have hbw3:=HB2.out.trans (HB3.out.mono hws);have HBW3:=hid hbw3;clear henv3 hbw3
  go_wp2_with fail
  refine(tl w3 F g p b st l HENV3.out.lg HENV3.out.dk hpos hfew x hx1 hx2 true).mono ?_;rintro e w4 ⟨rfl,hb4⟩;have HBW4:=hid (HBW3.out.trans (hb4.mono HBW3.out.size));have HENV4:=hid (HENV3.out.pure hb4);clear hb4;obtain⟨RC,hRC⟩:∃RC,RC=lm st l x.size true:=⟨_,rfl⟩;rw[← hRC]at HEQ ⊢;clear hRC;by_cases hz:RC=0
  ·have HE2:=hid (HEQ.out.trans (if_neg (by simpa using hz)))
   subst hz
   go_wp2_with fail
   refine(xj w4 F g p b st l HENV4.out).mono ?_;rintro e w5 ⟨rfl,hleft⟩;have HLEFT:=hid hleft;clear hleft;obtain⟨RR,hRR⟩:∃RR,RR=lq st l:=⟨_,rfl⟩;rw[← hRR]at HE2 HLEFT ⊢;by_cases hz:RR.2=0
   ·have HE3:=hid (HE2.out.trans (if_neg (by simpa using hz)))
    have hturn:RR.1.2=l.turn∧bL l.gen (l.segs++[(l.gen,(l.next:Int))])=true:=by
     rw[hRR]at hz ⊢;unfold lq at hz ⊢;by_cases h9:bL l.gen (l.segs++[(l.gen,(l.next:Int))])=false
     ·rw[if_pos h9]at hz;simp at hz
     ·rw[if_neg h9]at hz ⊢
      by_cases h8:(kT (lp l) st).2≠0
      ·rw[if_pos h8]at hz;exact absurd hz h8
      ·rw[if_neg h8];exact⟨rfl,by simpa using h9⟩
    have HT:=hid hturn;rw[hz];clear hz hturn hRR
    go_upto_if 51 with fail
    go_cut [] (λwx=>wx=w5)
    case first=>
     go_wp2
     go_meet
     exact rfl
    case rest=>
     subst hcut;obtain⟨F1,e1,f1,n1⟩:=HLEFT.out;have ht:=HT.out.1;have hnx:RR.1.2.next=l.next:=by rw[ht,l9]
     apply_assumption
     exact xp _ F1 g p b RR.1.1 RR.1.2 e1 x HPAY.out (by rw[hnx];exact hn) (by rw[ht,l7];have:=HLE.out;unfold kP.good;rw[iS];simp[iC];omega) w F l.next _ λe w' h=>by
      rw[HE3.out];obtain⟨h1,h2⟩:=h;rw[hnx]at h1;exact⟨h1,(h2.two HENV4.out f1 n1).before H0.out HBW4.out⟩
   ·have HE3:=hid (HE2.out.trans (if_pos (by simpa using hz)))
    have hne:(RR.2 == 0)=false:=by simpa using hz
    have hnn:(RR.2 != 0)=true:=by simpa using hz
    have HZ:=hid hz;clear hz hRR;go_wp2;refine bodyPost_ret (v:=.tuple #[.int .i64 0,.int .i64 RR.2]) (by simp[results,results11,go_sem]) rfl ?_;exact xo (s:=RR.1) HE3.out HZ.out (HLEFT.out.before H0.out HBW4.out)
  ·have HE2:=hid (HEQ.out.trans (if_pos (by simpa using hz)))
   have hne:(RC == 0)=false:=by simpa using hz
   have hnn:(RC != 0)=true:=by simpa using hz
   have HZ:=hid hz;clear hz;go_wp2;refine bodyPost_ret (v:=.tuple #[.int .i64 0,.int .i64 RC]) (by simp[results,results11,go_sem]) rfl ?_;exact xo HE2.out HZ.out (H0.out.stay HBW4.out)
 ·have HEQ:=hid (xt (st:=st) HNE.out HLE.out hn (by rw[ak];exact HFB.out))
  rw[ak]at HEQ;have henv3:=HENV.out.pure HB3.out;have HENV3:=hid henv3;have hbw3:=HB2.out.trans (HB3.out.mono hws);have HBW3:=hid hbw3;clear henv3 hbw3
  go_wp2_with fail
  refine(tl w3 F g p b st l HENV3.out.lg HENV3.out.dk hpos hfew x hx1 hx2 false).mono ?_;rintro e w4 ⟨rfl,hb4⟩;have HBW4:=hid (HBW3.out.trans (hb4.mono HBW3.out.size));have HENV4:=hid (HENV3.out.pure hb4);clear hb4;obtain⟨RC,hRC⟩:∃RC,RC=lm st l x.size false:=⟨_,rfl⟩;rw[← hRC]at HEQ ⊢;clear hRC;by_cases hz:RC=0
  ·have HE2:=hid (HEQ.out.trans (if_neg (by simpa using hz)))
   subst hz
   go_upto_if 47 with fail
   go_cut [] (λwx=>wx=w4)
   case first=>
    go_wp2
    go_meet
    exact rfl
   case rest=>
    subst hcut
    apply_assumption
    exact xp _ F g p b st l HENV4.out x HPAY.out hn (by rw[ak];have:=xu HFB.out hs2;omega) w F l.next _ λe w' h=>by
     rw[HE2.out];exact⟨h.1,h.2.before H0.out HBW4.out⟩
  ·have HE2:=hid (HEQ.out.trans (if_pos (by simpa using hz)))
   have hne:(RC == 0)=false:=by simpa using hz
   have hnn:(RC != 0)=true:=by simpa using hz
   have HZ:=hid hz;clear hz;go_wp2;refine bodyPost_ret (v:=.tuple #[.int .i64 0,.int .i64 RC]) (by simp[results,results11,go_sem]) rfl ?_;exact xo HE2.out HZ.out (H0.out.stay HBW4.out)
end
section
open Go.RowKit Go.Maps Go.Sort
theorem xx (w:World)(F:Nat→Prop)(g p b:Nat)(st:cZ)(l:kR)(h0:tp w F g p b st l)(x:ByteArray)(hx:x.size≤140737488355328) :
  Calls prog 11 #[.pointer (some ⟨g,0,none⟩),.string x] w λe w'=>xm w F g p b l.next (ls st l x.data.toList) e w':=by
 by_cases hbad:x.size=0∨4096<x.size∨1048576≤l.next
 ·exact xq w F g p b st l h0 x hx hbad
 ·exact xw w F g p b st l h0 x (by omega) (by omega) (by omega)
structure xy (w0 w:World) (F:Nat→Prop) (g p b:Nat) (st:cZ) (l:kR):Prop where
 env:tp w F g p b st l
 far:∀k,F k→w0.heap.size≤k
 fp:w0.heap.size≤p
 fb:w0.heap.size≤b
 below:Below w0.heap.size w0 w
theorem xy.pure {w0 w w':World}{F:Nat→Prop}{g p b:Nat}{st:cZ}{l:kR}(h:xy w0 w F g p b st l)(hb:Below w.heap.size w w'):xy w0 w' F g p b st l:=
 ⟨h.env.pure hb,h.far,h.fp,h.fb,h.below.trans (hb.mono h.below.size)⟩
theorem xy.left {w0 w w':World}{F:Nat→Prop}{g p b:Nat}{st:cZ}{l:kR}(h:xy w0 w F g p b st l){s:cZ×kR}(hl:tq w F g p b s w'):∃F',xy w0 w' F' g p b s.1 s.2:=by
 obtain⟨F',h1,h2,h3⟩:=hl;refine⟨F',h1,λk hk=>?_,h.fp,h.fb,h.below.trans (h2.below h.below.size λk hk e=>?_)⟩
 ·rcases h3 k hk with e|e
  ·exact h.far k e
  ·exact Nat.le_trans h.below.size e
 ·rcases e with e|rfl|rfl
  ·have:=h.far k e;omega
  ·have:=h.fp;omega
  ·have:=h.fb;omega
theorem xy.init {w0 w w':World}(hp:Pow w0){p b:Nat}{st st':cZ}{l:kR}{e:Ending}{c:Int}(hb:Below w0.heap.size w0 w)(hd:db w p b st)(fp:w0.heap.size≤p)(fb:w0.heap.size≤b)(hk:lu l)(h:tC p b (st',c,some l) w e w') :
  ∃g F,e = .returned (.tuple #[.pointer (some ⟨g,0,none⟩),.int .i64 c])∧xy w0 w' F g p b st' l:=by
 obtain⟨h1,h2,g,F,h3,h4,h5⟩:=h;have hw:PW<w0.heap.size:=bR hp;have hpl:=hd.lt;have hbl:=hd.own.lt;have hs:=hb.size;have hb2:Below w0.heap.size w0 w':=hb.trans (h2.below (B:=w0.heap.size) hs λk hk e=>by
  rcases e with e|e
  ·rw[e]at hk;omega
  ·rw[e]at hk;omega)
 refine⟨g,F,h5,⟨h3,h1,bS hb2 hp,hk,λk hk=>?_,by omega⟩,λk hk=>Nat.le_trans hs (h4 k hk),fp,fb,hb2⟩;have:=h4 k hk;omega
structure xG (w0 W:World) (p b:Nat) (st:cZ):Prop where
 dk:db W p b st
 fp:w0.heap.size≤p
 fb:w0.heap.size≤b
 below:Below w0.heap.size w0 W
theorem xG.pure {w0 W W':World}{p b:Nat}{st:cZ}(h:xG w0 W p b st)(hb:Below W.heap.size W W'):xG w0 W' p b st:=⟨h.dk.pure hb,h.fp,h.fb,h.below.trans (hb.mono h.below.size)⟩
theorem xG.op {w0 W W':World}{p b:Nat}{st st':cZ}(h:xG w0 W p b st)(hd:db W' p b st')(hf:dY p b W W'):xG w0 W' p b st':=
 ⟨hd,h.fp,h.fb,h.below.trans (hf.below h.below.size (λk hk e=>by have:=h.fp;have:=h.fb;rcases e with rfl|rfl<;>omega))⟩
theorem xG.lz {w0 W:World}{p b:Nat}{st:cZ}(h:xG w0 W p b st)(hl:xB w0):xB W∧¬xC p∧¬xC b:=
 ⟨hl.pure h.below,λe=>by have:=hl.lt _ e;have:=h.fp;omega,λe=>by have:=hl.lt _ e;have:=h.fb;omega⟩
end
section
open Go.RowKit
def frB:Nat→List (List UInt8)→Bool
 | _,[]=>true
 | q,p::r=>decide (1≤p.length) && decide (p.length≤4096) && decide (q<1048576) && frB (q+1) r
theorem rn:∀(l:List (List UInt8)) (q:Nat),frB q l=true→iE q l
 | [],_,_=>trivial
 | p::r,q,h=>by
  unfold frB at h;simp only[Bool.and_eq_true,decide_eq_true_eq]at h;exact⟨⟨h.1.1.1,h.1.1.2⟩,h.1.2,rn r (q+1) h.2⟩
def ro (l:kR)(i:Nat):Bool:=match l.segs[i]?,l.ix[i]? with
 | some s,some x=>decide (s.2=(x.1:Int)) && frB x.1 x.2 && decide (kP.good x≤1048576)
 | _,_=>true
def rp (l:kR)(i:Nat):Bool:=match l.ix[i]?,l.ix[i+1]? with
 | some x,some y=>decide (y.1=kP.next x)
 | _,_=>true
def rt (l:kR):Bool:=kN l.cfg && bL l.gen l.segs && decide (l.ix.length=l.segs.length) && (List.range l.segs.length).all (ro l) && (List.range l.ix.length).all (rp l) && decide (l.next≤1048576)
theorem ru {l:kR}(h:rt l=true):lu l:=by
 unfold rt at h;simp only[Bool.and_eq_true,decide_eq_true_eq,List.all_eq_true,List.mem_range]at h;obtain⟨⟨⟨⟨⟨h1,h2⟩,h3⟩,h4⟩,h5⟩,h6⟩:=h;refine⟨h1,h2,h3,λi hi hi'=>?_,λi hi=>?_,h6⟩
 ·have h:=h4 i hi
  unfold ro at h;rw[List.getElem?_eq_getElem hi,List.getElem?_eq_getElem hi']at h;simp only[Bool.and_eq_true,decide_eq_true_eq]at h;exact⟨h.1.1,rn _ _ h.1.2,h.2⟩
 ·have h:=h5 i (by omega)
  unfold rp at h;rw[List.getElem?_eq_getElem (show i<l.ix.length by omega),List.getElem?_eq_getElem hi]at h;exact of_decide_eq_true h
def rv (st:cZ)(l:kR)(i:Nat):Bool:=match l.segs[i]?,l.ix[i]? with
 | some s,some x=>match cM st.fs (gu s)with
  | some f=>decide (f.firm++f.pend=iR x.1 x.2) && decide (16≤f.firm.length) && (decide (l.segs.length≤i+1) || decide (f.pend=[]))
  | none=>false
 | _,_=>true
def rx (st:cZ)(l:kR):Bool:=match cM st.fs jh with
 | some f=>decide (f.name=jh) && decide (f.firm=Crc.seal_ (ge l.gen l.segs)) && decide (f.pend=[])
 | none=>false
def ry (st:cZ)(l:kR):Bool:=rx st l && (List.range l.segs.length).all (rv st l) && st.fs.all (λf=>decide (f.name=jh) || (l.segs.map gu).contains f.name)
theorem rA {st:cZ}{l:kR}(h:ry st l=true):LgOn st l:=by
 unfold ry at h;simp only[Bool.and_eq_true,List.all_eq_true,List.mem_range,Bool.or_eq_true,decide_eq_true_eq]at h;obtain⟨⟨h1,h2⟩,h3⟩:=h;refine⟨?_,λi hi hi'=>?_,λf hf=>?_⟩
 ·unfold rx at h1
  cases e:cM st.fs jh with
  | none=>rw[e]at h1;cases h1
  | some f=>
   rw[e]at h1;simp only[Bool.and_eq_true,decide_eq_true_eq]at h1;obtain⟨a,b,c⟩:=f;obtain⟨⟨rfl,rfl⟩,rfl⟩:=h1;rfl
 ·have h:=h2 i hi
  unfold rv at h;rw[List.getElem?_eq_getElem hi,List.getElem?_eq_getElem hi']at h;cases e:cM st.fs (gu l.segs[i])with
  | none=>simp only[e]at h;cases h
  | some f=>
   simp only[e,Bool.and_eq_true,Bool.or_eq_true,decide_eq_true_eq]at h;exact⟨f,rfl,h.1.1,h.1.2,λhl=>h.2.resolve_left (by omega)⟩
 ·rcases h3 f hf with h|h
  ·exact .inl h
  ·exact .inr (by simpa using h)
theorem rB:pV rj q9=(rj,5,none):=by unfold pV;rw[if_neg (by decide),if_pos (by decide)];rfl
theorem rC:ry mxD1 (mU q9 0)=true∧named mxD1=true∧qx (mxD1.fs.map (·.name))=[]:=by decide +kernel
def rD:List UInt8:=[110,111,32,98,97,116,99,104]
def mxB:(cZ×kR)×Int:=ls mxD1 (mU q9 0) rD
def mxBL:kR:=⟨q9,0,[(0,0)],[(0,[rD])]⟩
theorem rE:mxB.2=0∧pX mxB.1.2 mxBL=true∧ry mxB.1.1 mxBL=true∧named mxB.1.1=true∧rt mxBL=true∧mxB.1.1.dark=false:=by decide +kernel
theorem rF:qV ri mxBL=([],4):=by decide +kernel
theorem rG:mxS.2=0∧ry mxS.1 rk=true∧rt rk=true∧named mxS.1=true∧mxS.1.dark=false∧(qV ri rk).2=0∧(qV ri rk).1.length=2:=by decide +kernel
def rH:cZ×Int:=kT (qY (qX rk (qV ri rk).1)) mxS.1
def rI:cZ×Int:=jt rH.1 1 (qW rk (qV ri rk).1)
def rJ:cZ×Int:=kT (goS (qZ rk (qV ri rk).1)) rI.1
theorem rK:rH.2=0∧rI.2=0∧rJ.2=0∧ry rJ.1 mxK=true∧rt mxK=true∧named rJ.1=true∧rJ.1.dark=false∧qW rk (qV ri rk).1=mxK.segs:=by decide +kernel
theorem rL:(eI rJ.1 (b9 1 2)).2=0∧(eI rJ.1 (b9 0 2)).2≠0:=by decide +kernel
def rM:cZ×Int:=qO rJ.1 1 (qQ 1 10,0)
def rN:cZ×Int:=qO rM.1 5 (qQ 5 50,0)
def mxQ:cZ×Int×Option kR:=pV rN.1 q9
theorem rO:rM.2=0∧rN.2=0∧named rN.1=true:=by decide +kernel
theorem rP:mxQ.2.1=0∧pZ mxQ.2.2 mxK=true∧named mxQ.1=true∧mxQ.1.dark=false∧qx (mxQ.1.fs.map (·.name))=[1,5]:=by decide +kernel
theorem rQ:eI mxQ.1 (qc 1)=(qQ 1 10,0)∧eI mxQ.1 (qc 5)=(qQ 5 50,0):=by decide +kernel
def mxC:cZ×Int:=jt mxQ.1 1 (mxK.segs.drop 2)
def mxE:cZ×Int:=kT (goS ((mxK.segs.map gu).take 2)) mxC.1
def mxF:cZ×Int:=qA mxE.1 5
def mxH:cZ×Int×Option kR:=pV mxF.1 q9
def mxJ:kR:=⟨q9,1,[(0,4),(1,6)],[(4,[rh 3 5,rh 3 6]),(6,[rh 3 7,rh 3 8])]⟩
theorem rR:rm 5 mxK.segs=2∧bL 1 (mxK.segs.drop 2)=true∧mxC.2=0∧mxE.2=0∧mxF.2=0∧named mxF.1=true:=by decide +kernel
theorem rS:mxH.2.1=0∧pZ mxH.2.2 mxJ=true:=by decide +kernel
theorem rT:(eI mxH.1 (qc 1)).2≠0∧(eI mxH.1 (qc 5)).2=0∧(eI mxH.1 (b9 1 2)).2≠0:=by decide +kernel
def rU:kR:={ rk with gen:=99999999 }
def mxX:cZ×Int:=jt mxS.1 99999999 rk.segs
theorem rV:mxX.2=0∧bL 99999999 rk.segs=true∧ry mxX.1 rU=true∧rt rU=true∧named mxX.1=true∧mxX.1.dark=false:=by decide +kernel
theorem rW:(mz mxS.1).1=0∧(mz mxS.1).2.1=rk.segs∧(mz mxS.1).2.2=0:=by decide +kernel
theorem zZ (w:World)(g:Int)(a:Option Addr)(n c:Nat)(av:Value)(hg:99999999≤g) :
  Calls prog 28 #[.agg #[.int .i64 g,.slice a n c],av] w λe w'=>e = .returned (.tuple #[.slice none 0 0,.agg #[.int .i64 0,.slice none 0 0],.int .i64 40])∧Below w.heap.size w w':=by
 have hd:decide (g≥99999999)=true:=by simpa using hg
 obtain⟨B,hB⟩:∃B,B=w.heap.size:=⟨_,rfl⟩;obtain⟨W1,hW1⟩:∃W1,W1=(w.alloc (.cells #[.int .i64 g,.slice a n c] 42)).alloc (.cells #[.int .i64 0,.slice none 0 0] 42):=⟨_,rfl⟩;have hb1:Below B w W1:=by rw[hW1,hB];exact((Below.refl _ _).alloc (Nat.le_refl _) _).alloc (by simp) _
 have k0:W1.heap[B]?=some (.cells #[.int .i64 g,.slice a n c] 42 (0,0)):=by rw[hW1,hB];exact(Below.heap_alloc _ _ _ (by simp)).trans (heap_alloc_new _ _)
 have k1:W1.heap[B+1]?=some (.cells #[.int .i64 0,.slice none 0 0] 42 (0,0)):=by rw[hW1,hB];exact fm _ _ (by simp)
 have K1:=hid k1;have HB1:=hid (hb1);have HBB:=hid hB;have x0:W1.cell? ⟨B,0,none⟩=some (.int .i64 g):=(cell_of_row _ _ _ _ _ _ k0).trans rfl;have z0:W1.cell? ⟨B+1,0,none⟩=some (.int .i64 0):=(cell_of_row _ _ _ _ _ _ k1).trans rfl;have z1:W1.cell? ⟨B+1,1,none⟩=some (.slice none 0 0):=(cell_of_row _ _ _ _ _ _ k1).trans rfl;have zf0:W1.frozen? ⟨B+1,0,none⟩=false:=frozen_of_row _ _ _ _ _ k1;have zf1:W1.frozen? ⟨B+1,1,none⟩=false:=frozen_of_row _ _ _ _ _ k1;clear hb1 k0 k1 hg
 go_enter func28,ntmps28
 go_wp2_with fail
 rw[← hW1,← hB];clear hW1 hB
 go_wp2_with fail
 exact bodyPost_ret (v:=.tuple #[.slice none 0 0,.agg #[.int .i64 0,.slice none 0 0],.int .i64 40]) (by simp[results,results28,go_sem,z0,z1]) rfl ⟨rfl,HB1.out⟩
end
end Go.Proofs.YthjjgcfdhkhelaaGreatDoor
