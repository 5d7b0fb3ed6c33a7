/- Arguments that came in; what the errors of the library's variables are. -/
import Derived.Lib.QuietBelow
import Derived.Deep.DeepCutAuto
import Derived.Test.YtaeakdichkhjaaaGreatDoorQBr
import Derived.Test.YtaeakdichkhjaaaGreatDoorQBs
import Derived.Test.YtaeakdichkhjaaaGreatDoorQAq
import Derived.Test.YtaeakdichkhjaaaGreatDoorChecked
import Derived.ProofKit
import Derived.OpenShut
import Derived.LaidMore
import Derived.Lay
import Derived.Lib.LaidTab
import Derived.Deep.SlicePairs
import Derived.Lib.SmallJoins
import Derived.SevenTiedAt
import Derived.Stop.Joined
import Derived.SizedLaws
import Derived.Deep.Slices
import Derived.SliceStrings
import Derived.Test.YtaeakdichkhjaaaGreatDoorQAk
import Derived.Test.YtaeakdichkhjaaaGreatDoorQAa
import Derived.Test.YtaeakdichkhjaaaGreatDoorQAm
import Derived.Shelf.Vars
set_option maxHeartbeats 16000000
open Go.Lib(hid)
namespace Go.Proofs.YtaeakdichkhjaaaGreatDoor
section
open Go.RowKit Go.Maps Go.Sort
def NoPendW (N:List UInt8)(l:Fs)(k:Nat):Prop:=∀j (h:j<l.length),j<k→l[j].name=N→l[j].pend=[]
theorem NoPendW.step {N:List UInt8}{l:Fs}{k:Nat}(h:NoPendW N l k)(hk:k<l.length)(hn:l[k].name=N→l[k].pend=[]):NoPendW N l (k+1):=by
 intro j hj hlt hname
 rcases Nat.lt_or_eq_of_le (Nat.le_of_lt_succ hlt)with h1|h1
 ·exact h j hj h1 hname
 ·subst h1;exact hn hname
theorem NoPendW.all {N:List UInt8}{l:Fs}(h:NoPendW N l l.length):∀f,dR l N=some f→f.pend=[]:=by
 intro f hf;obtain⟨hn,hm⟩:=d9 hf;obtain⟨j,hj,rfl⟩:=List.mem_iff_getElem.1 hm;exact h j hj hj hn
theorem AP {N:List UInt8}{l:Fs}{f:FileS}(h:f∈zU N l):f∈l:=(List.mem_filter.1 h).1
theorem OwnFiles.keptW {S:Nat→Prop}{w w':World}{v:Value}{l:Fs}(h:OwnFiles w v l)(hf:Fr S w w')(hs:∀g,v.ownBlock=some g→¬S g):OwnFiles w' v l:=hf.ownsRow h hs
theorem OwnFiles.pureW {w w':World}{v:Value}{l:Fs}(h:OwnFiles w v l)(hb:Below w.heap.size w w'):OwnFiles w' v l:=h.keptW (Fr.pure (S:=λ_=>False) hb) (λ_ _ h=>h)
set_option maxRecDepth 100000 in
theorem AQ (w:World)(hl:Libz w)(cp:Int)(lv:Value)(l:Fs)(hfl:FilesAt w lv l)(hlen:l.length≤4398046511104)(hsz:∀f∈l,f.name.length≤140737488355328∧f.firm.length≤140737488355328∧f.pend.length≤140737488355328)(hcp:cp≤9223372036854775807)
  (seq:Int) (F:Nat→Prop) (sv:StV) (dv:VwV) (s:StD) (v:VwD) (hs:StAt F w sv s) (hv:VwAt F w dv v) (hF:∀g,F g→g<w.heap.size) (hi:StIn s) (hvi:VwIn v)
  (cut:Int) (hc0 : -9223372036854775808≤cut) (hc1:cut≤9223372036854775807) (kv:Value) (ks:List Int) (hk:IntsAt w kv ks) (hkl:ks.length≤9223372036854775807) (hkb:∀j,kv.ownBlock=some j→j<w.heap.size) :
  Calls Tryz.prog 4 #[.int .i64 cp,lv,.int .i64 seq,.agg (kw s sv),.agg (ky dv),.int .i64 cut,kv] w λe w'=>e = .returned (.bool true)∧Below w.heap.size w w':=by
 obtain⟨s4,s5,s6,s7,s8⟩:=sv;obtain⟨sa4,sc4,rfl⟩:=hs.a.shape;obtain⟨sa5,sc5,rfl⟩:=hs.i.shape;obtain⟨sa6,sc6,rfl⟩:=hs.r.shape;obtain⟨sa7,sc7,rfl⟩:=hs.o.shape;obtain⟨sa8,sc8,rfl⟩:=hs.u.shape;obtain⟨d0,d1,d2,d3⟩:=dv;obtain⟨da0,dc0,rfl⟩:=hv.o.shape;obtain⟨da1,dc1,rfl⟩:=hv.l.shape;obtain⟨da2,dc2,rfl⟩:=hv.p.shape;obtain⟨da3,dc3,rfl⟩:=hv.n.shape;obtain⟨al,cl,rfl⟩:=hfl.shape;obtain⟨ak,ck,rfl⟩:∃a c,kv = .slice a ks.length c:=by obtain⟨a,c,e,_⟩:=hk;exact⟨a,c,e⟩
 have HS:=hid hs;have HV:=hid hv;have HI:=hid hi;have HVI:=hid hvi;have HF:=hid hF;have HL:=hid hl;have HFL:=hid hfl;have HSZ:=hid hsz;have HK:=hid hk;have HKB:=hid hkb;unfold kw ky;dsimp only;clear hs hv hi hvi hF hl hfl hsz hk hkb
 go_enter Tryz.func4,Tryz.ntmps4
 go_wp2_with fail
 obtain⟨n,hn⟩:∃n,n=w.heap.size:=⟨_,rfl⟩;obtain⟨W0,hW0⟩:∃W,W=(w.alloc (.cells #[.int .i64 s.clock,.int .i64 s.fee,.int .i64 s.nextO,.int .i64 s.nextA,.slice sa4 s.accts.length sc4,.slice sa5 s.insts.length sc5,.slice sa6 s.rows.length sc6,.slice sa7 s.ords.length sc7,.slice sa8 s.aucs.length sc8] 29)).alloc (.cells #[.slice da0 v.open_.length dc0,.slice da1 v.lots.length dc1,.slice da2 v.poss.length dc2,.slice da3 v.lins.length dc3] 35):=⟨_,rfl⟩;have bW0:Below w.heap.size w W0:=by rw[hW0];exact((Below.refl _ _).alloc (Nat.le_refl _) _).alloc (by simp) _
 have k0:W0.heap[n]?=some (.cells #[.int .i64 s.clock,.int .i64 s.fee,.int .i64 s.nextO,.int .i64 s.nextA,.slice sa4 s.accts.length sc4,.slice sa5 s.insts.length sc5,.slice sa6 s.rows.length sc6,.slice sa7 s.ords.length sc7,.slice sa8 s.aucs.length sc8] 29 (0,0)):=by rw[hW0,hn];exact(Below.heap_alloc _ _ _ (by simp<;>omega)).trans (heap_alloc_new _ _)
 have k1:W0.heap[n+1]?=some (.cells #[.slice da0 v.open_.length dc0,.slice da1 v.lots.length dc1,.slice da2 v.poss.length dc2,.slice da3 v.lins.length dc3] 35 (0,0)):=by rw[hW0,hn];exact qN _ _ (by simp)
 have K0:=hid k0;have K1:=hid k1;have B0:=hid bW0;have L0:=hid (HL.out.pure bW0);have S0:=hid (HS.out.pure bW0);have V0:=hid (HV.out.pure bW0);have FL0:=hid (HFL.out.pure bW0);have KK0:=hid (HK.out.kept (Fr.pure (S:=λ_=>False) bW0) (λ_ _ h=>h));have F0:=hid (show ∀g,F g→g<W0.heap.size from λg hg=>Nat.lt_of_lt_of_le (HF.out g hg) bW0.size);have KB0:=hid (show ∀j,(Value.slice ak ks.length ck).ownBlock=some j→j<W0.heap.size from λj e=>Nat.lt_of_lt_of_le (HKB.out j e) bW0.size);rw[← hW0,← hn];clear hW0 hn k0 k1 bW0;refine(AH W0 _ l FL0.out hlen).mono ?_;rintro e w1 ⟨⟨bo,rfl⟩,hb1⟩;have B1:=hid hb1;have r0:=(hb1.block _ (lt_of_block K0.out)).trans K0.out;have r1:=(hb1.block _ (lt_of_block K1.out)).trans K1.out;clear hb1;cases bo;rotate_left
 ·clear r0 r1
  go_wp2_with fail
  refine(n9 w1 (L0.out.pure B1.out)).mono ?_;rintro e wq ⟨rfl,hbq⟩;have BQ:=hid (dj B0.out (dj B1.out hbq));clear hbq;go_wp2;go_ret;exact⟨rfl,BQ.out⟩
 obtain⟨c0,c1,c2,c3,c4,c5,c6,c7,c8⟩:=ml (r0);obtain⟨e0,e1,e2,e3⟩:=mo (r1);have S1:=hid (S0.out.pure B1.out);have V1:=hid (V0.out.pure B1.out);clear r0 r1
 go_wp2_with fail
 refine(show Calls Tryz.prog 6 #[.agg #[.int .i64 s.clock,.int .i64 s.fee,.int .i64 s.nextO,.int .i64 s.nextA,.slice sa4 s.accts.length sc4,.slice sa5 s.insts.length sc5,.slice sa6 s.rows.length sc6,.slice sa7 s.ords.length sc7,.slice sa8 s.aucs.length sc8],.agg #[.slice da0 v.open_.length dc0,.slice da1 v.lots.length dc1,.slice da2 v.poss.length dc2,.slice da3 v.lins.length dc3]] w1 _ from yQ F F w1 ⟨.slice sa4 s.accts.length sc4,.slice sa5 s.insts.length sc5,.slice sa6 s.rows.length sc6,.slice sa7 s.ords.length sc7,.slice sa8 s.aucs.length sc8⟩ ⟨.slice da0 v.open_.length dc0,.slice da1 v.lots.length dc1,.slice da2 v.poss.length dc2,.slice da3 v.lins.length dc3⟩ s v S1.out V1.out HI.out HVI.out).mono ?_;rintro e w2 ⟨⟨b,rfl,hsm⟩,hb2⟩;have B2:=hid (dj B1.out hb2);have HSM:=hid hsm;clear hb2 hsm B1 S1 V1 c0 c1 c2 c3 c4 c5 c6 c7 c8 e0 e1 e2 e3;cases b;rotate_left
 ·clear HSM
  go_wp2_with fail
  refine(n9 w2 (L0.out.pure B2.out)).mono ?_;rintro e wq ⟨rfl,hbq⟩;have BQ:=hid (dj B0.out (dj B2.out hbq));clear hbq;go_wp2;go_ret;exact⟨rfl,BQ.out⟩
 have SM:=hid (HSM.out rfl);have LS:=hid (HI.out.lim SM.out);have LV:=hid (HVI.out.lim);clear HSM;by_cases h100:100<ks.length
 ·have hq100:decide ((100:Int)<(ks.length:Int))=true:=by simp;omega
  go_wp2_with fail
  refine(n9 w2 (L0.out.pure B2.out)).mono ?_;rintro e wq ⟨rfl,hbq⟩;have BQ:=hid (dj B0.out (dj B2.out hbq));clear hbq;go_wp2;go_ret;exact⟨rfl,BQ.out⟩
 have hq100:decide ((100:Int)<(ks.length:Int))=false:=by simp;omega
 go_wp2_with fail
 refine(n9 w2 (L0.out.pure B2.out)).mono ?_;rintro e w3 ⟨rfl,hb3⟩;have B3:=hid (dj B2.out hb3);have FL3:=hid (FL0.out.pure B3.out);clear hb3 B2 hq100
 go_wp2_with fail
 refine(iw w3 cp _ l FL3.out hlen HSZ.out hcp).mono ?_;rintro e w4 ⟨hb4,hload⟩;have B4:=hid (dj B3.out hb4);clear hb4
 rcases nP cp l with⟨c,hcf,hce,hld⟩|hld
 ·rw[hld]at hload
  simp only at hload;subst hload;clear hld;go_wp2;go_ret;exact⟨rfl,dj B0.out B4.out⟩
 rw[hld]at hload;obtain⟨p,b,hpg,hbg,rfl,hd4⟩:=hload;have HLL:=hid (show l.length≤64 from hd4.ok.fs.few);have HSML:=hid (show ∀f∈l,f.firm.length+f.pend.length≤1048576 from hd4.ok.fs.small);have O4:=hid (show Own27 W0 w4 p b ⟨l,cp,-1,false⟩from⟨hd4,by have:=B3.out.size;omega,by have:=B3.out.size;omega,B4.out⟩);clear hld hd4 B3 B4 FL3 hpg hbg
 go_wp2_with fail
 refine(mL w4 (O4.out.lz L0.out).1.pow seq).mono ?_;rintro e w5 ⟨⟨nm,hnm,rfl⟩,hb5⟩;have O5:=hid (O4.out.pure hb5);have HNM:=hid hnm;clear hb5 O4 hnm
 go_wp2_with fail
 have hp5:=O5.out.dk.lt;have hq5:=O5.out.dk.own.lt;refine(mW w5 p b _ O5.out.dk).mono ?_;rintro e w6 ⟨fv,rfl,hown,hvb,hb6⟩;have hown:OwnFiles w6 fv l:=hown;obtain⟨ab,cb,rfl⟩:=hown.at.shape;have FV6:=hid hown;have HVB:=hid (show ∀j,(Value.slice ab l.length cb).ownBlock=some j→¬(j=p∨j=b)from λj e=>by have:=hvb j e;omega);have O6:=hid (O5.out.pure hb6);clear hb6 hown hvb hp5 hq5 O5;have hnz:nm.size≤maxLen:=by rw[ay HNM.out];have:=nN seq;unfold maxLen;omega
 have HRD:=hid (fW w6 p b _ O6.out.dk nm hnz);rw[HNM.out]at HRD;have HNZ:=hid hnz;clear hnz
 go_wp2_with fail
 refine HRD.out.mono ?_;rintro e w7 ⟨⟨old,hold,rfl⟩,hb7⟩;obtain⟨fo,hfo⟩:∃fo,fo=(fU ⟨l,cp,-1,false⟩ (gQ seq)).2:=⟨_,rfl⟩;rw[← hfo];have HOLD:=hid (And.intro hold hfo);have O7:=hid (O6.out.pure hb7);have FV7:=hid (FV6.out.pureW hb7);clear hb7 hold hfo O6 FV6 HRD
 go_wp2_with fail
 go_loop [21] (λi=>∃k:Nat,k≤l.length∧i = .int .i64 k∧Hid (NoPendW (gQ seq) l k)) (λi=>l.length-(intOf i).toNat)
 case atStart=>exact⟨0,by omega,rfl,hid (λj _ h=>by omega)⟩
 case round=>
  obtain⟨k,hk,rfl,HNP⟩:=hrel;by_cases hlt:k<l.length
  ·obtain⟨q,o,rfl,hql,x,y,z,e1,e2,e3,h1,h2,h3⟩:=FV7.out.at.at k hlt
   clear h2 e2;by_cases hx:l[k].name=gQ seq
   ·have g1:(x.toList == nm.toList)=true:=by rw[ByteArray.toList_eq,ByteArray.toList_eq,e1,hx,HNM.out];simp
    by_cases hz:l[k].pend=[]
    ·have g2:z.toList.isEmpty=true:=by rw[ByteArray.toList_eq,e3,hz];rfl
     clear e1 e3
     go_wp2_with fail
     go_round
     case rel=>exact⟨k+1,by omega,by go_num,hid (HNP.out.step hlt (λ_=>hz))⟩
     case measure=>simp[intOf];omega
    ·have g2:z.toList.isEmpty=false:=by rw[ByteArray.toList_eq,e3];cases e:l[k].pend;exact absurd e hz;rfl
     clear e1 e3
     go_wp2_with fail
     go_ret;exact⟨rfl,dj B0.out O7.out.below⟩
   ·have g1:(x.toList == nm.toList)=false:=by rw[ByteArray.toList_eq,ByteArray.toList_eq,e1,HNM.out];simpa using hx
    clear e1 e3
    go_wp2_with fail
    go_round
    case rel=>exact⟨k+1,by omega,by go_num,hid (HNP.out.step hlt (λe=>absurd e hx))⟩
    case measure=>simp[intOf];omega
  ·obtain rfl:k=l.length:=by omega
   have HNO:=hid HNP.out.all;clear HNP hk hlt
   go_upto_region 14 with fail
   obtain⟨lf,hlf⟩:∃lf:Int,lf=if 0≤cut then cut else -1:=⟨_,rfl⟩
   go_cut [100] (λs100 wx=>s100 = .bool false∧IsDk wx p b ⟨l,cp,lf,false⟩∧DFr p b w7 wx)
   case first=>
    as_aux_lemma=>
     by_cases hcut:0≤cut
     ·go_wp2_with fail
      refine(fY w7 p b _ O7.out.dk cut hc0 hc1).mono ?_;rintro e w8 ⟨rfl,hd8,hf8⟩;have e1:fX ⟨l,cp,-1,false⟩ cut=(⟨l,cp,lf,false⟩,0):=by unfold fX;rw[hlf,if_neg (by simp),if_neg (by omega),if_pos hcut]
      rw[e1]at hd8 ⊢;have HX:=hid (And.intro hd8 hf8);clear hd8 hf8 e1 hlf
      go_wp2_with fail
      go_meet
      exact⟨rfl,HX.out⟩
     ·have HX:=hid (show IsDk w7 p b ⟨l,cp,lf,false⟩from by rw[hlf,if_neg hcut];exact O7.out.dk)
      clear hlf
      go_wp2_with fail
      go_meet
      exact⟨rfl,HX.out,Fr.refl _ _⟩
   case rest=>
    as_aux_lemma=>
     obtain⟨rfl,hd8,hf8⟩:=hcut;clear hlf
     generalize wc=w8 at *
     have O8:=hid (O7.out.op hd8 hf8);have FV8:=hid (FV7.out.keptW hf8 HVB.out);have S8:=hid (S0.out.pure O8.out.below);have V8:=hid (V0.out.pure O8.out.below);have r0:=(O8.out.below.block _ (lt_of_block K0.out)).trans K0.out;have r1:=(O8.out.below.block _ (lt_of_block K1.out)).trans K1.out;obtain⟨c0,c1,c2,c3,c4,c5,c6,c7,c8⟩:=ml (r0);obtain⟨e0,e1,e2,e3⟩:=mo (r1);have HWR:=hid (zG O8.out L0.out seq F ⟨.slice sa4 s.accts.length sc4,.slice sa5 s.insts.length sc5,.slice sa6 s.rows.length sc6,.slice sa7 s.ords.length sc7,.slice sa8 s.aucs.length sc8⟩ ⟨.slice da0 v.open_.length dc0,.slice da1 v.lots.length dc1,.slice da2 v.poss.length dc2,.slice da3 v.lins.length dc3⟩ s v S8.out V8.out (λg hg=>Nat.lt_of_lt_of_le (F0.out g hg) O8.out.below.size) LS.out LV.out SM.out);clear hd8 hf8 r0 r1 FV7 O7;unfold kw ky at HWR;dsimp only at HWR;have LW:=hid (AE l cp lf seq s v ks HNO.out);obtain⟨⟨st2,g⟩,hW⟩:∃R,R=iS ⟨l,cp,lf,false⟩ seq (xC seq s v):=⟨_,rfl⟩;rw[← hW]at HWR LW;dsimp only at HWR;clear hW
     go_wp2_with fail
     refine HWR.out.mono ?_;rintro e w9 ⟨rfl,o9,f9⟩;have O9:=hid o9;have FV9:=hid (FV8.out.keptW f9 HVB.out);clear o9 f9 FV8 O8 HWR S8 V8 c0 c1 c2 c3 c4 c5 c6 c7 c8 e0 e1 e2 e3
     go_upto_if 107 with fail
     go_cut [] (λwx=>Below w9.heap.size w9 wx)
     case first=>
      as_aux_lemma=>
       by_cases hg:g=0
       ·have q1:(g == 0)=true:=by rw[hg];rfl
        have HFR:=hid (LW.out.fresh hg);clear hg
        go_wp2_with fail
        refine(show Calls Tryz.prog 17 #[.pointer (some ⟨p,0,none⟩),.string ⟨#[83,78,65,80,83,72,79,84,46,110,101,119]⟩] w9 λe w'=>fV (fU st2 iP) w9 e w' from fW w9 p b st2 O9.out.dk ⟨#[83,78,65,80,83,72,79,84,46,110,101,119]⟩ (by decide)).mono ?_;rintro e w10 ⟨⟨r,hr,rfl⟩,hb10⟩;have HB10:=hid hb10;clear hr hb10;rw[HFR.out];dsimp only;by_cases hcut:cut<0
        ·have q2:decide (cut<0)=true:=by simpa using hcut
         go_wp2_with fail
         go_meet
         exact HB10.out
        ·have q2:decide (cut<0)=false:=by simpa using hcut
         go_wp2_with fail
         go_meet
         exact HB10.out
       ·have q1:(g == 0)=false:=by simpa using hg
        clear hg
        go_wp2_with fail
        go_meet
        exact Below.refl _ _
     case rest=>
      as_aux_lemma=>
       generalize wc=w10 at *
       have O10:=hid (O9.out.pure hcut);have FV10:=hid (FV9.out.pureW hcut);clear hcut O9 FV9;obtain⟨st3,hst3⟩:∃st3,st3=iC st2 ks:=⟨_,rfl⟩;have HST3:=hid hst3;have KK10:=hid (KK0.out.kept (Fr.pure (S:=λ_=>False) O10.out.below) (λ_ _ h=>h));have HCR:=hid (iL w10 p b st2 O10.out.dk (.slice ak ks.length ck) ks KK10.out (λj e=>by have:=KB0.out j e;have:=O10.out.fp;have:=O10.out.fb;omega));rw[← hst3]at HCR;clear hst3 KK10
       go_upto_region 21 with fail
       go_cut [129] (λs129 wx=>s129 = .bool false∧IsDk wx p b st3∧DFr p b w10 wx)
       case first=>
        as_aux_lemma=>
         obtain⟨kb,hkb⟩:∃kb:Bool,kb=(g == 45):=⟨_,rfl⟩;have hup:st2.dark=kb:=by rw[hkb];exact Bool.eq_iff_iff.2 (by have:=LW.out.up;simpa using this)
         go_wp2_with fail
         refine(AO w10 p b st2 O10.out.dk).mono ?_;rintro e w11 ⟨rfl,rfl⟩;rw[hup];clear hup;cases kb
         ·have hc:(g == 45)=false:=hkb.symm
          clear hkb
          go_wp2_with fail
          refine HCR.out.mono ?_;rintro e w11 ⟨rfl,hd,hf⟩;have HX:=hid (And.intro hd hf);clear hd hf
          go_wp2_with fail
          go_meet
          exact⟨rfl,HX.out⟩
         ·have hc:(g == 45)=true:=hkb.symm
          clear hkb
          go_wp2_with fail
          refine HCR.out.mono ?_;rintro e w11 ⟨rfl,hd,hf⟩;have HX:=hid (And.intro hd hf);clear hd hf
          go_wp2_with fail
          go_meet
          exact⟨rfl,HX.out⟩
       case rest=>
        as_aux_lemma=>
         obtain⟨rfl,hd11,hf11⟩:=hcut
         generalize wc=w11 at *
         have O11:=hid (O10.out.op hd11 hf11);have FV11:=hid (FV10.out.keptW hf11 HVB.out);clear hd11 hf11 O10 FV10 HCR;have HRD:=hid (fW w11 p b _ O11.out.dk nm HNZ.out);rw[HNM.out]at HRD
         go_wp2_with fail
         refine HRD.out.mono ?_;rintro e w12 ⟨⟨now,hnow,rfl⟩,hb12⟩;obtain⟨hc,hhc⟩:∃hc,hc=(fU st3 (gQ seq)).2:=⟨_,rfl⟩;rw[← hhc];have HNOW:=hid (And.intro hnow hhc);have O12:=hid (O11.out.pure hb12);have FV12:=hid (FV11.out.pureW hb12);clear hb12 hnow hhc O11 FV11 HRD;have HRD:=hid (zF O12.out L0.out seq);have SHT:=hid (zS seq (fU st3 (gQ seq)));have HYES:=hid (show g=0→xe seq (fU st3 (gQ seq))=(s,v,0)from by have:=LW.out.yes;rw[← HST3.out]at this;exact this);have HNOT:=hid (show g≠0→fU st3 (gQ seq)=fU ⟨l,cp,-1,false⟩ (gQ seq)from by have:=LW.out.no;rw[← HST3.out]at this;exact this);have HPR:=hid (show PairsW (zU (gQ seq) st3.fs) (zU (gQ seq) l)from by have:=LW.out.pairs;rw[← HST3.out]at this;exact this);obtain⟨⟨S2,V2,ic⟩,hA⟩:∃R,R=xe seq (fU st3 (gQ seq)):=⟨_,rfl⟩;rw[← hA]at HRD SHT HYES;clear hA LW
         go_wp2_with fail
         refine HRD.out.mono ?_;rintro e w13 ⟨⟨sv2,dv2,rfl,hst,hvt⟩,hb13⟩;dsimp only at hst hvt ⊢;obtain⟨x4,x5,x6,x7,x8⟩:=sv2;obtain⟨xa4,xm4,xc4,rfl⟩:∃a m c,x4=Value.slice a m c:=by obtain⟨a,c,h⟩:=hst.a.shape;exact⟨a,_,c,h⟩
         obtain⟨xa5,xm5,xc5,rfl⟩:∃a m c,x5=Value.slice a m c:=by obtain⟨a,c,h⟩:=hst.i.shape;exact⟨a,_,c,h⟩
         obtain⟨xa6,xm6,xc6,rfl⟩:∃a m c,x6=Value.slice a m c:=by obtain⟨a,c,h⟩:=hst.r.shape;exact⟨a,_,c,h⟩
         obtain⟨xa7,xm7,xc7,rfl⟩:∃a m c,x7=Value.slice a m c:=by obtain⟨a,c,h⟩:=hst.o.shape;exact⟨a,_,c,h⟩
         obtain⟨xa8,xm8,xc8,rfl⟩:∃a m c,x8=Value.slice a m c:=by obtain⟨a,c,h⟩:=hst.u.shape;exact⟨a,_,c,h⟩
         obtain⟨y0,y1,y2,y3⟩:=dv2;obtain⟨ya0,ym0,yc0,rfl⟩:∃a m c,y0=Value.slice a m c:=by obtain⟨a,c,h⟩:=hvt.o.shape;exact⟨a,_,c,h⟩
         obtain⟨ya1,ym1,yc1,rfl⟩:∃a m c,y1=Value.slice a m c:=by obtain⟨a,c,h⟩:=hvt.l.shape;exact⟨a,_,c,h⟩
         obtain⟨ya2,ym2,yc2,rfl⟩:∃a m c,y2=Value.slice a m c:=by obtain⟨a,c,h⟩:=hvt.p.shape;exact⟨a,_,c,h⟩
         obtain⟨ya3,ym3,yc3,rfl⟩:∃a m c,y3=Value.slice a m c:=by obtain⟨a,c,h⟩:=hvt.n.shape;exact⟨a,_,c,h⟩
         have O13:=hid (O12.out.pure hb13);have FV13:=hid (FV12.out.pureW hb13);have T13:=hid hst;have U13:=hid hvt;clear hb13 hst hvt HRD O12 FV12;unfold kw ky;dsimp only
         go_upto_region 25 with fail
         obtain⟨W14,hW14⟩:∃W,W=(w13.alloc (.cells #[.int .i64 S2.clock,.int .i64 S2.fee,.int .i64 S2.nextO,.int .i64 S2.nextA,.slice xa4 xm4 xc4,.slice xa5 xm5 xc5,.slice xa6 xm6 xc6,.slice xa7 xm7 xc7,.slice xa8 xm8 xc8] 29)).alloc (.cells #[.slice ya0 ym0 yc0,.slice ya1 ym1 yc1,.slice ya2 ym2 yc2,.slice ya3 ym3 yc3] 35):=⟨_,rfl⟩;have bW14:Below w13.heap.size w13 W14:=by rw[hW14];exact((Below.refl _ _).alloc (Nat.le_refl _) _).alloc (by simp) _
         have k6:W14.heap[w13.heap.size]?=some (.cells #[.int .i64 S2.clock,.int .i64 S2.fee,.int .i64 S2.nextO,.int .i64 S2.nextA,.slice xa4 xm4 xc4,.slice xa5 xm5 xc5,.slice xa6 xm6 xc6,.slice xa7 xm7 xc7,.slice xa8 xm8 xc8] 29 (0,0)):=by rw[hW14];exact(Below.heap_alloc _ _ _ (by simp)).trans (heap_alloc_new _ _)
         have j6:W14.heap[w13.heap.size+1]?=some (.cells #[.slice ya0 ym0 yc0,.slice ya1 ym1 yc1,.slice ya2 ym2 yc2,.slice ya3 ym3 yc3] 35 (0,0)):=by rw[hW14];exact qN _ _ (by simp)
         have O14:=hid (O13.out.pure bW14);have FV14:=hid (FV13.out.pureW bW14);have T14:=hid (T13.out.pure bW14);have U14:=hid (U13.out.pure bW14);have K6:=hid k6;have J6:=hid j6;obtain⟨m5,hm5⟩:∃m5,m5=w13.heap.size:=⟨_,rfl⟩;rw[← hW14];rw[← hm5]at K6 J6
         try rw[← hm5]
         clear hW14 bW14 O13 FV13 T13 U13 k6 j6 hm5;have S14:=hid (S0.out.pure O14.out.below);have V14:=hid (V0.out.pure O14.out.below);have r0:=(O14.out.below.block _ (lt_of_block K0.out)).trans K0.out;have r6:=K6.out;obtain⟨c0,c1,c2,c3,c4,c5,c6,c7,c8⟩:=ml (r0);obtain⟨t0,t1,t2,t3,t4,t5,t6,t7,t8⟩:=ml (r6);clear r0 r6
         go_cut [30] (λs30 wx=>∃fr:Bool,s30 = .bool fr∧Hid (g=0→fr=true)∧Hid (Below W14.heap.size W14 wx))
         case first=>
          as_aux_lemma=>
           by_cases hi:ic=0
           ·have q1:(ic == 0)=true:=by rw[hi];rfl
            clear hi
            go_wp2_with fail
            refine(show Calls Tryz.prog 12 #[.agg #[.int .i64 S2.clock,.int .i64 S2.fee,.int .i64 S2.nextO,.int .i64 S2.nextA,.slice xa4 xm4 xc4,.slice xa5 xm5 xc5,.slice xa6 xm6 xc6,.slice xa7 xm7 xc7,.slice xa8 xm8 xc8],.agg #[.int .i64 s.clock,.int .i64 s.fee,.int .i64 s.nextO,.int .i64 s.nextA,.slice sa4 s.accts.length sc4,.slice sa5 s.insts.length sc5,.slice sa6 s.rows.length sc6,.slice sa7 s.ords.length sc7,.slice sa8 s.aucs.length sc8]] W14 _ from zz _ F W14 ⟨.slice xa4 xm4 xc4,.slice xa5 xm5 xc5,.slice xa6 xm6 xc6,.slice xa7 xm7 xc7,.slice xa8 xm8 xc8⟩ ⟨.slice sa4 s.accts.length sc4,.slice sa5 s.insts.length sc5,.slice sa6 s.rows.length sc6,.slice sa7 s.ords.length sc7,.slice sa8 s.aucs.length sc8⟩ S2 s T14.out S14.out SHT.out.1 SM.out.st).mono ?_;rintro e w15 ⟨⟨b1,hb1,rfl⟩,hb15⟩;have HB1:=hid hb1;have B15:=hid hb15;have U15:=hid (U14.out.pure hb15);have V15:=hid (V14.out.pure hb15);have r1:=((dj O14.out.below hb15).block _ (lt_of_block K1.out)).trans K1.out;have s6:=(hb15.block _ (lt_of_block J6.out)).trans J6.out;obtain⟨e0,e1,e2,e3⟩:=mo (r1);obtain⟨u0,u1,u2,u3⟩:=mo (s6);clear r1 s6 hb1 hb15;cases b1
            ·go_wp2_with fail
             go_meet
             exact⟨false,rfl,hid (λhg=>by have h1:=HYES.out hg;simp only[Prod.mk.injEq]at h1;exact absurd (HB1.out.2 h1.1) (by simp)),B15⟩
            ·go_wp2_with fail
             refine(show Calls Tryz.prog 13 #[.agg #[.slice ya0 ym0 yc0,.slice ya1 ym1 yc1,.slice ya2 ym2 yc2,.slice ya3 ym3 yc3],.agg #[.slice da0 v.open_.length dc0,.slice da1 v.lots.length dc1,.slice da2 v.poss.length dc2,.slice da3 v.lins.length dc3]] w15 _ from zA _ F w15 ⟨.slice ya0 ym0 yc0,.slice ya1 ym1 yc1,.slice ya2 ym2 yc2,.slice ya3 ym3 yc3⟩ ⟨.slice da0 v.open_.length dc0,.slice da1 v.lots.length dc1,.slice da2 v.poss.length dc2,.slice da3 v.lins.length dc3⟩ V2 v U15.out V15.out SHT.out.2 SM.out.vw).mono ?_;rintro e w16 ⟨⟨b2,hb2,rfl⟩,hb16⟩;have HB2:=hid hb2;have B16:=hid (dj B15.out hb16);clear hb2 hb16
             go_wp2_with fail
             go_meet
             exact⟨b2,rfl,hid (λhg=>by have h1:=HYES.out hg;simp only[Prod.mk.injEq]at h1;exact HB2.out.2 h1.2.1),B16⟩
           ·have q1:(ic == 0)=false:=by simpa using hi
            have HI2:=hid hi;clear hi
            go_wp2_with fail
            go_meet
            exact⟨false,rfl,hid (λhg=>by have h1:=HYES.out hg;simp only[Prod.mk.injEq]at h1;exact absurd h1.2.2 HI2.out),hid (Below.refl _ _)⟩
         case rest=>
          as_aux_lemma=>
           obtain⟨fr,rfl,HFR2,HB16⟩:=hcut
           generalize wc=w16 at *
           have O16:=hid (O14.out.pure HB16.out);have FV16:=hid (FV14.out.pureW HB16.out);clear O14 FV14 T14 U14 S14 V14 K6 J6 HB16 c0 t0 c1 t1 c2 t2 c3 t3 c4 t4 c5 t5 c6 t6 c7 t7 c8 t8
           go_upto_region 26 with fail
           go_cut [31] (λs31 wx=>∃wa:Bool,s31 = .bool wa∧Hid (g≠0→wa=true)∧wx=w16)
           case first=>
            as_aux_lemma=>
             have HWA:=hid (show g≠0→(hc == fo)=true∧(now.toList == old.toList)=true from λhg=>by
              have h1:=HNOT.out hg;refine⟨by rw[HNOW.out.2,HOLD.out.2,h1];simp,?_⟩;rw[ByteArray.toList_eq,ByteArray.toList_eq,HNOW.out.1,HOLD.out.1,h1];simp)
             obtain⟨ba,hba⟩:∃ba:Bool,ba=(hc == fo):=⟨_,rfl⟩;obtain⟨bb,hbb⟩:∃bb:Bool,bb=(now.toList == old.toList):=⟨_,rfl⟩;rw[← hba,← hbb]at HWA;have q1:=hba.symm;have q2:=hbb.symm;clear hba hbb;cases ba
             ·go_wp2_with fail
              go_meet
              exact⟨false,rfl,hid (λhg=>(HWA.out hg).1),rfl⟩
             ·go_wp2_with fail
              go_meet
              exact⟨bb,rfl,hid (λhg=>(HWA.out hg).2),rfl⟩
           case rest=>
            as_aux_lemma=>
             obtain⟨wa,rfl,HWA,rfl⟩:=hcut
             go_upto_region 27 with fail
             go_cut [184] (λs184 wx=>s184 = .bool false∧wx=wc)
             case first=>
              as_aux_lemma=>
               by_cases hg:g=0
               ·obtain rfl:fr=true:=HFR2.out hg
                have q1:(g == 0)=true:=by rw[hg];rfl
                have q2:(g != 0)=false:=by rw[hg];rfl
                clear hg
                go_wp2_with fail
                go_meet
                exact⟨rfl,rfl⟩
               ·obtain rfl:wa=true:=HWA.out hg
                have q1:(g == 0)=false:=by simpa using hg
                have q2:(g != 0)=true:=by simpa using hg
                clear hg
                go_wp2_with fail
                go_meet
                exact⟨rfl,rfl⟩
             case rest=>
              as_aux_lemma=>
               obtain⟨rfl,rfl⟩:=hcut;clear HWA HFR2
               generalize wc=w16 at *
               go_wp2_with fail
               refine(mW w16 p b st3 O16.out.dk).mono ?_;rintro e w17 ⟨fv2,rfl,hown2,_,hb17⟩;have hown2:OwnFiles w17 fv2 st3.fs:=hown2;obtain⟨ad,cd,rfl⟩:=hown2.at.shape;have HO2:=hid hown2;have HFEW:=hid (show st3.fs.length≤64 from O16.out.dk.ok.fs.few);have O17:=hid (O16.out.pure hb17);have FV17:=hid (FV16.out.pureW hb17);clear hb17 hown2 O16 FV16
               go_wp2_with fail
               refine(AN w17 _ st3.fs HO2.out.at HFEW.out nm (gQ seq) HNM.out).mono ?_;rintro e w18 ⟨va,rfl,hoa,_,hb18⟩;have hla:(zU (gQ seq) st3.fs).length=(zU (gQ seq) l).length:=HPR.out.len;obtain⟨a1,c1,rfl⟩:=hoa.at.shape;have HA18:=hid hoa;have O18:=hid (O17.out.pure hb18);have FV18:=hid (FV17.out.pureW hb18);clear hb18 hoa O17 FV17 HO2;obtain⟨ln,hln⟩:∃ln,ln=(zU (gQ seq) l).length:=⟨_,rfl⟩;have hl64:ln≤64:=by rw[hln];exact Nat.le_trans (AM _ l) HLL.out
               rw[hla,← hln];have HLN:=hid (And.intro hla hln);clear hla hln
               go_wp2_with fail
               refine(AN w18 _ l FV18.out.at HLL.out nm (gQ seq) HNM.out).mono ?_;rintro e w19 ⟨vb,rfl,hob,_,hb19⟩;obtain⟨a2,c2,rfl⟩:=hob.at.shape;have HB19:=hid hob;have HA19:=hid (HA18.out.pureW hb19);have O19:=hid (O18.out.pure hb19);clear hb19 hob O18 FV18 HA18;rw[← HLN.out.2];have q1:((ln:Int) != (ln:Int))=false:=by simp
               go_wp2_with fail
               go_loopw [34] (λi wr=>∃k:Nat,i = .int .i64 k∧k≤ln∧Hid (Below w19.heap.size w19 wr)) (λi _=>ln-(intOf i).toNat)
               case atStart=>exact⟨0,rfl,by omega,hid (Below.refl _ _)⟩
               case round=>
                obtain⟨k,rfl,hk,HBR⟩:=hrel;by_cases hlt:k<ln
                ·obtain⟨q,o,rfl,hql,xa,ya,za,e1,e2,e3,h1,h2,h3⟩:=(HA19.out.pureW HBR.out).at.at k (by rw[HLN.out.1,← HLN.out.2];exact hlt)
                 obtain⟨q',o',rfl,hql',xb,yb,zb,f1,f2,f3,k1,k2,k3⟩:=(HB19.out.pureW HBR.out).at.at k (by rw[← HLN.out.2];exact hlt);have hkept:=HPR.out.at k (by rw[HLN.out.1,← HLN.out.2];exact hlt) (by rw[← HLN.out.2];exact hlt);have HCON:=hid (λW=>AJ W xa ya za xb yb zb _ _ e1 e2 e3 f1 f2 f3 hkept (HSML.out _ (AP (List.getElem_mem _))));clear e1 e2 e3 f1 f2 f3 hkept
                 go_wp2_with fail
                 have r1:=cell_regrown h1;have r2:=cell_regrown h2;have r3:=cell_regrown h3;have r4:=cell_regrown k1;have r5:=cell_regrown k2;have r6:=cell_regrown k3;have hge:decide ((ln:Int)≤(k:Int))=false:=by simp;omega
                 have hge2:decide (ln≤k)=false:=by simp;omega
                 have q2:∀d os,Calls Tryz.prog 22 #[.agg #[.string xa,.string ya,.string za],.agg #[.string xb,.string yb,.string zb]] (grow (redrawn wr d) os) λe w''=>e = .returned (.bool true)∧∃p:Regrown,w''=grow (redrawn wr p.d) p.os:=λd os=>Calls.regrown_of (HCON.out _);refine wp_region_quiet_below (by kernel_rfl) (by kernel_rfl) ?_
                 repeat (go_big_quiet_step (first|exact q2 _ _))
                 refine wpQuiet_nil ?_;intro _ hw';obtain⟨⟨dq,osq⟩,hw''⟩:=hw';subst hw'';have HG:=hid (dj HBR.out (below_regrown wr dq osq));clear r1 r2 r3 r4 r5 r6 q2 hge hge2
                 go_wp2_with fail
                 go_roundw
                 case rel=>exact⟨k+1,by go_num,by omega,HG⟩
                 case measure=>simp[intOf];omega
                ·go_wp2
                 go_ret;exact⟨rfl,dj B0.out (dj O19.out.below HBR.out)⟩
end
section
open Go.ChangeShapes Go.WideShapes Go.ChangeAt Go.RowKit
theorem AR:ownKnob Tryz.prog.godebug=none:=by kernel_rfl
theorem AU {H:Type}{enc:TypeId×Value→H}{P:Program}{w:World}{base fuel:Nat}{spare:Nat→Bool}{held:Bool}{t:TypeId}{cs:List Value}{x:DataW H×List MemPlace}{ms:Array (String×TypeId)}(ht:P.underlying t=some (.interface ms))
  (h:DataW.trod enc P w base spare held fuel t cs=some x):∃ev,cs=[ev]∧(ev = .nilIface∨∃te pe,ev = .iface te pe):=by
 cases fuel with
 | zero=>simp[DataW.trod]at h
 | succ n=>
  unfold DataW.trod at h;rw[ht]at h
  split at h<;>simp_all
theorem AV {W:World}{n:String}{g:Nat}{cs:Array Value}(hg:Tryz.prog.globalNamed n=some g)(hv:W.var? Tryz.prog n=some cs){fuel:Nat}{x:DataW Unit×List MemPlace}
  (h:DataW.trod (λ_=>()) Tryz.prog W 0 (λ_=>true) false fuel 135 cs.toList=some x):ErrIn W g:=by
 obtain⟨ev,hc,he⟩:=AU Tryz.underlying135 h;unfold World.var? at hv;rw[hg]at hv;simp only[Option.bind_some]at hv;refine⟨ev,?_,he⟩;cases hh:W.heap[g]? with
 | none=>rw[hh]at hv;cases hv
 | some o=>
  rw[hh]at hv;cases o with
  | cells c1 t1 z1=>
   have e:c1=cs:=Option.some.inj hv;subst e;have h0:c1[0]?=some ev:=by rw[← Array.getElem?_toList,hc];rfl
   simp[World.cell?,hh,h0]
  | _=>simp at hv
end
end Go.Proofs.YtaeakdichkhjaaaGreatDoor
