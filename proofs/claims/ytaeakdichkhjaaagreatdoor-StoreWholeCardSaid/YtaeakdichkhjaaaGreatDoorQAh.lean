/- The example of the statements about snapshots' files, plainly. -/
import Derived.Test.YtaeakdichkhjaaaGreatDoorQAg
import Derived.Test.YtaeakdichkhjaaaGreatDoorQAb
set_option maxHeartbeats 2500000
open Go.Lib(hid)
namespace Go.Proofs.YtaeakdichkhjaaaGreatDoor
section
open Go.RowKit Go.Maps Go.Sort
def kept (k:Int)(m:Nat):Nat:=(k % 18446744073709551616 % ((m:Int)+1)).toNat
def iB:List Int→Fs→Fs
 | _,[]=>[]
 | ks,f::r=>if f.pend=[] then f::iB ks r else match ks with
  | []=>⟨f.name,f.firm,[]⟩::iB [] r
  | k::t=>⟨f.name,f.firm++f.pend.take (kept k f.pend.length),[]⟩::iB t r
def iC (st:DkSt)(ks:List Int):DkSt:=⟨iB ks st.fs,st.cap,-1,false⟩
theorem iD {A B:Fs}{f:FileS}(h:(A++f::B).Pairwise (λf g=>bytesBefore f.name g.name=true)):dR (A++f::B) f.name=some f:=by
 unfold dR;rw[List.find?_append];have hn:A.find? (λg=>g.name == f.name)=none:=by
  rw[List.find?_eq_none];intro g hg;have:=(List.pairwise_append.1 h).2.2 g hg f (by simp);have:=ez this;simpa using this
 rw[hn,List.find?_cons];simp
theorem iE {A B:Fs}{f g:FileS}(h:(A++f::B).Pairwise (λf g=>bytesBefore f.name g.name=true))(hn:g.name=f.name):dQ (A++f::B) g=A++g::B:=by
 have hA:∀x∈A,bytesBefore x.name g.name=true:=λx hx=>by rw[hn];exact(List.pairwise_append.1 h).2.2 x hx f (by simp)
 have hB:∀x∈B,bytesBefore g.name x.name=true:=λx hx=>by rw[hn];exact(List.pairwise_cons.1 (List.pairwise_append.1 h).2.1).1 x hx
 have hd:dP (A++f::B) g.name=A++B:=by
  unfold dP;rw[List.filter_append,List.filter_cons,show(f.name == g.name)=true from by rw[hn];simp];rw[List.filter_eq_self.2 (λx hx=>by have:=ez (hA x hx);simpa using this),if_neg (by simp),List.filter_eq_self.2 (λx hx=>by have:=(ez (hB x hx)).symm;simpa using this)]
 unfold dQ;rw[hd];clear hd h
 induction A with
 | nil=>
  cases B with
  | nil=>rfl
  | cons x r=>show dO g (x::r)=_;unfold dO;rw[hB x (by simp)];rfl
 | cons x r ih=>
  have hx:=hA x (by simp);have hx2:bytesBefore g.name x.name=false:=by
   cases e:bytesBefore g.name x.name
   ·rfl
   ·have:=WideShapes.bytes_trans _ _ _ hx e;rw[WideAt.bytes_irrefl]at this;cases this
  show dO g (x::(r++B))=_;unfold dO;rw[hx2,ih (λy hy=>hA y (by simp[hy]))];rfl
theorem iF {ks:List Int}{f:FileS}{r:Fs}(h:f.pend=[]):iB ks (f::r)=f::iB ks r:=by cases ks<;>rw[iB,if_pos h]
theorem iG {f:FileS}{r:Fs}(h:f.pend≠[]):iB [] (f::r)=⟨f.name,f.firm,[]⟩::iB [] r:=by rw[iB,if_neg h]
theorem iH {k:Int}{t:List Int}{f:FileS}{r:Fs}(h:f.pend≠[]):iB (k::t) (f::r)=⟨f.name,f.firm++f.pend.take (kept k f.pend.length),[]⟩::iB t r:=by rw[iB,if_neg h]
def IntsAt (w:World)(sv:Value)(ks:List Int):Prop:=
 ∃a c,sv = .slice a ks.length c∧ks.length≤c∧(ks=[]∨∃b o,a=some ⟨b,o,none⟩∧∀i (h:i<ks.length),w.cell? ⟨b,o+i,none⟩=some (.int .i64 ks[i]))
theorem IntsAt.kept {S:Nat→Prop}{w w':World}{sv:Value}{ks:List Int}(h:IntsAt w sv ks)(hf:Fr S w w')(hs:∀g,sv.ownBlock=some g→¬S g):IntsAt w' sv ks:=by
 obtain⟨a,c,rfl,hc,h|⟨b,o,rfl,h⟩⟩:=h
 ·exact⟨a,c,rfl,hc,.inl h⟩
 ·exact⟨_,c,rfl,hc,.inr ⟨b,o,rfl,λi hi=>hf.cellAt (h i hi) (hs b rfl)⟩⟩
theorem IntsAt.tail {w:World}{b o c:Nat}{k:Int}{t:List Int}(h:∀i (h:i<(k::t).length),w.cell? ⟨b,o+i,none⟩=some (.int .i64 (k::t)[i]))(hc:t.length+1≤c):IntsAt w (.slice (some ⟨b,o+1,none⟩) t.length (c-1)) t:=
 ⟨_,c-1,rfl,by omega,.inr ⟨b,o+1,rfl,λi hi=>by have:=h (i+1) (by simp;omega);rw[show o+1+i=o+(i+1)from by omega];simpa using this⟩⟩
theorem iI (w:World)(b:Nat)(fs:Fs)(hown:w.ownsMap Tryz.prog 9 dJ b fs.length (fsD fs))(n:ByteArray)(hn:n.size≤maxLen) :
  ∃f1 f2,(Instr.lookup 76 (.map (some b)) (.string n) false).run Tryz.prog w = .ok (.agg #[.string f1,.string f2]) w∧el fs n.data.toList f1 f2:=by
 obtain⟨es,clock,hb,F,_,hD⟩:=hown;have hkey:=WideMaps.keyOf_string_mk Tryz.underlying9 hn
 rcases Maps.fit_look false Tryz.strKey Tryz.underlying76 (Tryz.zeroFile w) hb F hkey with⟨hrun,_,hat⟩|⟨e0,y,_,_,hrun,hRv,hat,_⟩
 ·rw[← hD]at hat
  refine⟨⟨#[]⟩,⟨#[]⟩,hrun,?_⟩;have h:=hat (.agg [.lit (.string []),.lit (.string [])]);obtain⟨a,b,e,hg⟩:=en (v:=dK ⟨#[]⟩ ⟨#[]⟩) (ps:=[]) (fs:=fs) (n:=n.data.toList) (by rw[h];rfl);have e2:a=⟨#[]⟩∧b=⟨#[]⟩:=by simpa[dK,eq_comm]using e
  rw[e2.1,e2.2]at hg;exact hg
 ·rw[← hD]at hat
  have h:=hat (.agg [.lit (.string []),.lit (.string [])]);obtain⟨a,b,e,hg⟩:=en (v:=e0.val) (ps:=y.2) (fs:=fs) (n:=n.data.toList) (by rw[h];exact hRv);rw[e]at hrun;exact⟨a,b,hrun,hg⟩
theorem iJ {w:World}{base:Nat}{v:Value}{ns:List (List UInt8)}{n:Nat}(h:w.ownsRow base 9 1 v n (ns.map encStr)):∃a c,v = .slice a n c∧n=ns.length∧∀i (hi:i<ns.length),∃g,a=some ⟨g,0,none⟩∧base≤g∧w.cell? ⟨g,i,none⟩=some (.string ⟨ns[i].toArray⟩):=by
 obtain⟨hl,⟨rfl,rfl⟩|⟨g,cap,cur,rfl,hb,hh,hn,_,hsz,ht⟩⟩:=h
 ·simp at hl
  exact⟨none,0,rfl,by simp[hl],λi hi=>by rw[hl]at hi;simp at hi⟩
 ·simp at hl
  refine⟨_,cap,rfl,hl.symm,λi hi=>⟨g,rfl,hb,?_⟩⟩;rw[cell_of_row w g i _ _ _ hh];have e:(ns.map encStr)[i]?=some (encStr ns[i]):=by simp[hi]
  rw[← ht,List.getElem?_take,if_pos (by omega)]at e;rw[← Array.getElem?_toList];exact e
theorem iK (w:World)(p b:Nat)(st:DkSt)(A r:Fs)(f:FileS)(h:IsDk w p b { st with fs:=A++f::r })(x f4:ByteArray)(firm:List UInt8)(hx:x.data.toList=f.name)(h4:f4.data.toList=firm)(hl:firm.length≤f.firm.length+f.pend.length) :
  ∃w6,(Instr.mapUpdate 76 (.map (some b)) (.string x) (.agg #[.string f4,.string ⟨#[]⟩])).run Tryz.prog w.drew = .ok () w6∧IsDk w6 p b { st with fs:=A++[⟨f.name,firm,[]⟩]++r }∧Fr (λk=>k=b) w w6:=by
 have hg:=iD h.ok.fs.sorted;have hsm:=h.ok.fs.small f (d9 hg).2;have hname:=h.ok.fs.names f (d9 hg).2;obtain⟨w6,h1,h2,h3⟩:=gm w p b _ h x f4 ⟨#[]⟩ (by have:=ay hx;unfold maxLen;omega) f (by rw[hx];exact hg) firm [] h4 rfl (by simp;omega) (by have hft:(ec (A++f::r):Int)≤st.cap:=h.ok.fits;show(ec (A++f::r):Int)+((firm.length+0:Nat):Int)≤st.cap+((f.firm.length+f.pend.length:Nat):Int);omega);refine⟨w6,h1,?_,h3⟩;rw[hx]at h2;have e:dQ (A++f::r) ⟨f.name,firm,[]⟩=A++[⟨f.name,firm,[]⟩]++r:=by rw[iE (g:=⟨f.name,firm,[]⟩) h.ok.fs.sorted rfl];simp
 rw[← e];exact h2
set_option maxRecDepth 100000 in
theorem iL (w:World)(p b:Nat)(st:DkSt)(h:IsDk w p b st)(kv:Value)(ks:List Int)(hk:IntsAt w kv ks)(hkb:∀g,kv.ownBlock=some g→g≠p∧g≠b) :
  Calls Tryz.prog 20 #[.pointer (some ⟨p,0,none⟩),kv] w λe w'=>e = .returned (.int .i64 0)∧IsDk w' p b (iC st ks)∧DFr p b w w':=by
 have H:=hid h;have HK:=hid hk;have hp:=h.lt;have hbl:=h.own.lt;clear h hk;obtain⟨a0,c0,rfl⟩:∃a c,kv = .slice a ks.length c:=by obtain⟨a,c,e,_⟩:=HK.out;exact⟨a,c,e⟩
 go_enter Tryz.func20,Tryz.ntmps20
 go_wp2_with fail
 refine(iA w p b st H.out).mono ?_;rintro e w1 ⟨v,rfl,hown,hb1⟩;obtain⟨ga,gc,rfl,_,hrow⟩:=iJ hown;have HR:=hid hrow;have HB1:=hid hb1;have hfew:=H.out.ok.fs.few;have hs1:=hb1.size;clear hown hrow hb1
 rename_i hnl
 clear hnl;go_wp2
 go_loopw [1,14] (λkv i wr=>∃(A B:Fs) (ks':List Int),i = .int .i64 A.length∧A.length+B.length=st.fs.length∧IntsAt wr kv ks'∧(∀g,kv.ownBlock=some g→g≠p∧g≠b)∧iB ks st.fs=A++iB ks' B∧IsDk wr p b { st with fs:=A++B }∧(A++B).map (·.name)=st.fs.map (·.name)∧DFr p b w1 wr) (λ_ i _=>st.fs.length-(intOf i).toNat)
 case atStart=>exact⟨[],st.fs,ks,rfl,by simp,HK.out.kept (Fr.pure (S:=λ_=>False) HB1.out) (λ_ _ h=>h),hkb,rfl,H.out.pure HB1.out,rfl,Fr.refl _ _⟩
 case round=>
  obtain⟨A,B,ks',rfl,hAB,hks,hkb',heq,hdk,hnm,hfr⟩:=hrel;have hks2:=hks;obtain⟨a1,c1,rfl,hkc,_⟩:=hks2;cases B with
  | nil=>
   have hAB2:A.length=st.fs.length:=by rw[← hAB];simp
   have hz2:=hdk.fz 2;have hz3:=hdk.fz 3;obtain⟨d0,d1,d2,d3⟩:=hdk.cs;have HQ:=hid (And.intro heq (And.intro hdk hfr));clear heq hdk hnm hfr hks;go_wp2;go_ret;obtain⟨heq,hdk,hfr⟩:=HQ.out;refine⟨rfl,?_,(Fr.pure HB1.out).trans (((hfr.setCell ⟨p,2,none⟩ (λ_=>.inl rfl) _)).setCell ⟨p,3,none⟩ (λ_=>.inl rfl) _)⟩;have e1:iB ks' []=[]:=by cases ks'<;>rfl
   rw[e1]at heq;unfold iC;rw[heq];exact(hdk.setLeft (-1) (by omega) (by omega)).setDark false
  | cons f r=>
   have hlt:A.length<st.fs.length:=by rw[← hAB];simp
   obtain⟨g,rfl,hg,hcell⟩:=HR.out A.length (by simp;omega);have hcell:=hfr.cellAt hcell (by omega);have hna:(st.fs.map (·.name))[A.length]'(by simp;omega)=f.name:=by
    have:((A++f::r).map (·.name))[A.length]'(by simp)=f.name:=by simp
    rw[← this];congr 1;exact hnm.symm
   rw[hna]at hcell;have hsrt:=hdk.ok.fs.sorted;have hget:=iD hsrt;have hname:=hdk.ok.fs.names f (d9 hget).2;have hsm:=hdk.ok.fs.small f (d9 hget).2;obtain⟨x,hx⟩:∃x:ByteArray,x=⟨f.name.toArray⟩:=⟨_,rfl⟩;have hxl:x.data.toList=f.name:=by rw[hx]
   rw[← hx]at hcell;obtain⟨f1,f2,hlook,hgot⟩:=iI wr b (A++f::r) hdk.own x (by have:=ay hxl;unfold maxLen;omega);have hgf:f1.data.toList=f.firm∧f2.data.toList=f.pend:=by unfold el at hgot;rw[hxl,hget]at hgot;exact hgot
   obtain⟨d0,d1,d2,d3⟩:=hdk.cs;have HX:=hid hx;clear hx;clear hna hget hgot;by_cases hpe:f.pend=[]
   ·have hE:f2.toList.isEmpty=true:=by rw[ByteArray.toList_eq,hgf.2,hpe];rfl
    have hAB2:A.length+1+r.length=st.fs.length:=by rw[← hAB];simp;omega
    have HQ:=hid (And.intro hks (And.intro heq (And.intro hdk (And.intro hnm hfr))));clear hks heq hdk hnm hfr hsrt;go_wp2
    go_roundw
    case rel=>
     obtain⟨hks,heq,hdk,hnm,hfr⟩:=HQ.out;have e1:A++[f]++r=A++f::r:=by simp
     have hbz:Below wr.heap.size wr (wr.alloc (.cells #[.string f1,.string f2] 81)):=(Below.refl _ _).alloc (Nat.le_refl _) _;exact⟨A++[f],r,ks',by simp,by rw[List.length_append];exact hAB2,hks.kept (Fr.pure (S:=λ_=>False) hbz) (λ_ _ h=>h),hkb',by rw[heq,iF hpe];simp,by rw[e1];exact hdk.pure hbz,by rw[e1];exact hnm,hfr.andPure hbz⟩
    case measure=>simp[intOf];omega
   ·have hE:f2.toList.isEmpty=false:=by
     rw[ByteArray.toList_eq,hgf.2];cases hfp:f.pend with
     | nil=>exact absurd hfp hpe
     | cons=>rfl
    have hAB2:A.length+1+r.length=st.fs.length:=by rw[← hAB];simp;omega
    have HQ:=hid (And.intro heq (And.intro hdk (And.intro hnm hfr)));clear heq hdk hnm hfr hsrt;cases ks' with
    | nil=>
     have HKS:=hid hks;clear hks;have hbz:Below wr.heap.size wr (wr.alloc (.cells #[.string f1,.string f2] 81)):=(Below.refl _ _).alloc (Nat.le_refl _) _;have hsz1:f1.size+f2.size≤9223372036854775807:=by rw[ay hgf.1,ay hgf.2];omega
     obtain⟨w6,hrun,hd6,hf6⟩:=iK _ p b st A r f (HQ.out.2.1.pure hbz) x f1 f.firm hxl hgf.1 (by omega);have c0:(wr.alloc (.cells #[.string f1,.string f2] 81)).cell? ⟨p,0,none⟩=some (.map (some b)):=(HQ.out.2.1.pure hbz).cs.1;have HR6:=hid (And.intro hbz (And.intro hd6 hf6));clear hbz hd6 hf6;go_wp2
     go_region
     go_wp2
     go_roundw
     case rel=>
      obtain⟨heq,hdk,hnm,hfr⟩:=HQ.out;obtain⟨hbz,hd6,hf6⟩:=HR6.out;exact⟨A++[⟨f.name,f.firm,[]⟩],r,[],by simp,by rw[List.length_append];exact hAB2,⟨_,c1,rfl,by simp,.inl rfl⟩,hkb',by rw[heq,iG hpe];simp,hd6,by rw[← hnm];simp,(hfr.andPure hbz).trans hf6.toD⟩
     case measure=>simp[intOf];omega
    | cons k t=>
     obtain⟨a2,c2,e2,hkc2,hk0|⟨kb,o,rfl,hkc3⟩⟩:=hks
     ·cases hk0
     ·cases e2
      have hk0:=hkc3 0 (by simp);simp only[Nat.add_zero,List.getElem_cons_zero]at hk0;have HKC:=hid hkc3;have hbz:Below wr.heap.size wr (wr.alloc (.cells #[.string f1,.string f2] 81)):=(Below.refl _ _).alloc (Nat.le_refl _) _;have hk1:(wr.alloc (.cells #[.string f1,.string f2] 81)).cell? ⟨kb,o,none⟩=some (.int .i64 k):=by rw[World.cell?_alloc_past _ _ _ (aD hk0)];exact hk0
      have c0:(wr.alloc (.cells #[.string f1,.string f2] 81)).cell? ⟨p,0,none⟩=some (.map (some b)):=(HQ.out.2.1.pure hbz).cs.1;have hsz1:f1.size+f2.size≤1048576:=by rw[ay hgf.1,ay hgf.2];omega
      have hw1:IntKind.i64.wrap ((f2.size:Int)+1)=(f2.size:Int)+1:=IntWalk.i64_in _ (by omega);clear hkc3 hk0 hbz;go_wp2
      go_quiet (fail)
      obtain⟨mm,hmm,hml,hmk⟩:∃mm:Nat,(IntKind.u64.wrap k).tmod ((f2.size:Int)+1)=(mm:Int)∧mm≤f2.size∧mm=kept k f.pend.length:=by
       have e1:IntKind.u64.wrap k=k % 18446744073709551616:=rfl;have e0:0≤k % 18446744073709551616:=Int.emod_nonneg _ (by decide);have e2:0≤k % 18446744073709551616 % ((f2.size:Int)+1):=Int.emod_nonneg _ (by omega);have e3:k % 18446744073709551616 % ((f2.size:Int)+1)<(f2.size:Int)+1:=Int.emod_lt_of_pos _ (by omega);refine⟨(k % 18446744073709551616 % ((f2.size:Int)+1)).toNat,?_,by omega,?_⟩
       ·rw[e1,Int.tmod_eq_emod_of_nonneg e0,Int.toNat_of_nonneg e2]
       ·unfold kept;rw[← ay hgf.2]
      rw[hmm];have HMK:=hid hmk;clear hmm hmk;have hbz:Below wr.heap.size wr ((wr.alloc (.cells #[.string f1,.string f2] 81)).drewN nq):=by have:=(Below.refl wr.heap.size wr).alloc (Nat.le_refl _) (.cells #[.string f1,.string f2] 81);exact⟨this.os,this.tape,this.output,this.size,this.block⟩
      have hcl:(f2.extract 0 mm).data.toList=f.pend.take mm:=by rw[az,hgf.2];simp
      have hcs:=aA f2 0 mm hml (Nat.zero_le _);have hsz2:f1.size+(f2.extract 0 mm).size≤9223372036854775807:=by omega
      obtain⟨w6,hrun,hd6,hf6⟩:=iK _ p b st A r f (HQ.out.2.1.pure hbz) x (f1++f2.extract 0 mm) (f.firm++f.pend.take mm) hxl (by rw[fT,hgf.1,hcl]) (by rw[List.length_append,List.length_take];omega);have hrun2:(Instr.mapUpdate 76 (.map (some b)) (.string x) (.agg #[.string (f1++f2.extract 0 mm),.string ⟨#[]⟩])).run Tryz.prog ((wr.alloc (.cells #[.string f1,.string f2] 81)).drewN (nq+1)) = .ok () w6:=hrun;have HR6:=hid (And.intro hbz (And.intro hd6 hf6));clear hbz hd6 hf6 hrun hcl;by_cases hc1:c1=1
      ·have ht0:t=[]:=by have:=hkc2;simp at this;exact List.eq_nil_of_length_eq_zero (by omega)
       go_wp2
       go_region
       go_wp2
       go_roundw
       case rel=>
        obtain⟨heq,hdk,hnm,hfr⟩:=HQ.out;obtain⟨hbz,hd6,hf6⟩:=HR6.out;have hfw:Fr (λk=>k=b) wr w6:=(Fr.pure hbz).trans hf6;have hkk:=hkb' kb rfl;refine⟨A++[⟨f.name,f.firm++f.pend.take mm,[]⟩],r,t,by simp,by rw[List.length_append];exact hAB2,(by rw[ht0];exact⟨_,0,rfl,by simp,.inl rfl⟩),λg hg=>by cases hg;exact hkk,by rw[heq,iH hpe,HMK.out];simp,hd6,by rw[← hnm];simp,(hfr.andPure hbz).trans hf6.toD⟩
       case measure=>simp[intOf];omega
      ·have hc2:1<c1:=by simp at hkc2;omega
       go_wp2
       go_region
       go_wp2
       go_roundw
       case rel=>
        obtain⟨heq,hdk,hnm,hfr⟩:=HQ.out;obtain⟨hbz,hd6,hf6⟩:=HR6.out;have hfw:Fr (λk=>k=b) wr w6:=(Fr.pure hbz).trans hf6;have hkk:=hkb' kb rfl;refine⟨A++[⟨f.name,f.firm++f.pend.take mm,[]⟩],r,t,by simp,by rw[List.length_append];exact hAB2,(IntsAt.tail HKC.out (by simpa using hkc2)).kept hfw (λg hg=>by cases hg;exact hkk.2),λg hg=>by cases hg;exact hkk,by rw[heq,iH hpe,HMK.out];simp,hd6,by rw[← hnm];simp,(hfr.andPure hbz).trans hf6.toD⟩
       case measure=>simp[intOf];omega
end
end Go.Proofs.YtaeakdichkhjaaaGreatDoor
namespace Go.Proofs.YtaeakdichkhjaaaGreatDoor.Crc
section
def poly:BitVec 32:=0xEDB88320#32
def step (c:BitVec 32):BitVec 32:=if c.getLsbD 0 then (c >>> 1) ^^^ poly else c >>> 1
def steps:Nat→BitVec 32→BitVec 32
 | 0,c=>c
 | n+1,c=>steps n (step c)
theorem iM (m n:Nat)(c:BitVec 32):steps (m+n) c=steps n (steps m c):=by
 induction m generalizing c with
 | zero=>simp[steps]
 | succ m ih=>rw[show m+1+n=(m+n)+1 from by omega];simp only[steps];exact ih _
theorem steps_succ' (n:Nat)(c:BitVec 32):steps (n+1) c=step (steps n c):=by
 rw[iM n 1 c];rfl
def tab (b:BitVec 8):BitVec 32:=steps 8 (b.zeroExtend 32)
def over (c:BitVec 32)(b:BitVec 8):BitVec 32:=tab (c.truncate 8 ^^^ b) ^^^ (c >>> 8)
def bv (b:UInt8):BitVec 8:=b.toBitVec
def run (c:BitVec 32)(s:List UInt8):BitVec 32:=s.foldl (λc b=>over c (bv b)) c
theorem run_snoc (c:BitVec 32)(s:List UInt8)(b:UInt8):run c (s++[b])=over (run c s) (bv b):=by simp[run]
def four (c:BitVec 32):List UInt8:=[UInt8.ofBitVec (c.truncate 8),UInt8.ofBitVec ((c >>> 8).truncate 8),UInt8.ofBitVec ((c >>> 16).truncate 8),UInt8.ofBitVec ((c >>> 24).truncate 8)]
theorem iN (c:BitVec 32):(four c).length=4:=rfl
theorem parts (d:BitVec 32):d=(d.truncate 8).zeroExtend 32 ^^^ ((d >>> 8) <<< 8):=by
 apply BitVec.eq_of_getLsbD_eq;intro i hi;simp only[BitVec.getLsbD_xor,BitVec.getLsbD_setWidth,BitVec.getLsbD_shiftLeft,BitVec.getLsbD_ushiftRight,BitVec.truncate_eq_setWidth];by_cases h8:i<8
 ·simp[h8,hi]
 ·simp[h8,hi,show 8+(i-8)=i from by omega]
def of (s:List UInt8):BitVec 32 := ~~~ run (~~~ 0#32) s
def add (x:BitVec 32)(s:List UInt8):BitVec 32 := ~~~ run (~~~ x) s
theorem add_zero (s:List UInt8):add 0#32 s=of s:=rfl
def seal_ (s:List UInt8):List UInt8:=s++four (of s)
theorem seal_length (s:List UInt8):(seal_ s).length=s.length+4:=by simp[seal_,iN]
theorem ones : ~~~ 0#32=BitVec.allOnes 32:=by decide
end
end Go.Proofs.YtaeakdichkhjaaaGreatDoor.Crc
namespace Go.Proofs.YtaeakdichkhjaaaGreatDoor
section
open Go.RowKit
def iO (seq:Nat)(body:List UInt8):List UInt8:=Crc.seal_ ([115,110,112,49]++be 8 seq++be 4 body.length++body)
def iP:List UInt8:=[83,78,65,80,83,72,79,84,46,110,101,119]
def iQ (r:DkSt×Int):DkSt×Int:=
 if r.2=44 then (if (fC r.1 iP).2=45 then fC r.1 iP else ((fC r.1 iP).1,44)) else r
def iR (st:DkSt)(data name:List UInt8):DkSt×Int:=
 if (fC st iP).2≠0∧(fC st iP).2≠5 then fC st iP else
 if (fB (fC st iP).1 iP).2≠0 then fB (fC st iP).1 iP else
 if (gk (fB (fC st iP).1 iP).1 iP data).2≠0 then gk (fB (fC st iP).1 iP).1 iP data else
 if (fP (gk (fB (fC st iP).1 iP).1 iP data).1 iP).2≠0 then fP (gk (fB (fC st iP).1 iP).1 iP data).1 iP else
 fZ (fP (gk (fB (fC st iP).1 iP).1 iP data).1 iP).1 iP name
def iS (st:DkSt)(seq:Int)(D:List UInt8×Int):DkSt×Int:=if D.2≠0 then (st,D.2) else iQ (iR st D.1 (gQ seq))
def iT (c:Nat):List UInt8:=[UInt8.ofNat c,0,1,1,0,0,0,0,0,0,0,0,0]
def iU (seq c:Nat):List UInt8:=iO seq (iT c)
abbrev sn3:List UInt8:=[110,48,48,48,48,48,48,48,48,48,51]
def seT:DkSt:=⟨[],1000,-1,false⟩
def seA:DkSt×Int:=iS seT 5 (iU 5 50,0)
def seB:DkSt×Int:=iS seA.1 9 (iU 9 90,0)
def seC:DkSt×Int:=fB seB.1 sn3
set_option maxRecDepth 100000 in
theorem iV:seA.2=0∧seB.2=0∧seC.2=0∧seC.1.dark=false:=by decide +kernel
set_option maxRecDepth 100000 in
theorem iW:hU (seC.1.fs.map (·.name))=[3,5,9]:=by rw[← ij];decide +kernel
set_option maxRecDepth 100000 in
theorem iX:fU seC.1 (gQ 3)=([],0)∧fU seC.1 (gQ 5)=(iU 5 50,0):=by decide +kernel
def seK (cut:Int):DkSt×Int:=iS (fX seT cut).1 5 (iU 5 50,0)
def seX (cut:Int):DkSt:=iC (seK cut).1 [99]
set_option maxRecDepth 100000 in
theorem iY:(fX seT 2).2=0∧(fX seT 3).2=0∧(fX seT 4).2=0∧(seK 2).2≠0∧(seK 3).2≠0∧(seK 4).2=0:=by decide +kernel
set_option maxRecDepth 100000 in
theorem iZ:fU (seX 2) (gQ 5)=([],5)∧fU (seX 3) (gQ 5)=([],5)∧fU (seX 4) (gQ 5)=(iU 5 50,0):=by decide +kernel
end
end Go.Proofs.YtaeakdichkhjaaaGreatDoor
