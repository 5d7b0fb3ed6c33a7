/- The walk of posit.May. -/
import Derived.Deep.AppendLies
import Derived.Sort.OwnSortedInts
import Derived.Test.YtaeakdichkhjaaaGreatDoorShelfE
import Derived.Test.YtaeakdichkhjaaaGreatDoorQAm
import Derived.Test.YtaeakdichkhjaaaGreatDoorQAl
import Derived.Test.YtaeakdichkhjaaaGreatDoorQAt
import Derived.Test.YtaeakdichkhjaaaGreatDoorQAv
import Derived.Test.YtaeakdichkhjaaaGreatDoorQAy
import Derived.Test.YtaeakdichkhjaaaGreatDoorQAw
set_option maxHeartbeats 16000000
open Go.Lib(hid)
namespace Go.Proofs.YtaeakdichkhjaaaGreatDoor
section
open Go.RowKit Go.Sort Go.Shelf
theorem Tryz.infoIs64:(Tryz.prog.info? 2).map (λi=>(i.zero,i.size,i.bytes))=some (some (.int .i64 0),1,8):=by kernel_rfl
abbrev OwnIs (w:World) (base:Nat) (v:Value) (ns:List Int):Prop:=w.ownsRow base 2 1 v ns.length (ns.map (Value.int .i64))
theorem sz {w:World}{base:Nat}{v:Value}{ns:List Int}{s:Int}(h:w.ownsRow base 2 1 v (ns.length+1) (ns.map (Value.int .i64)++[.int .i64 s])):OwnIs w base v (ns++[s]):=by
 show w.ownsRow base _ 1 v (ns++[s]).length ((ns++[s]).map (Value.int .i64));rw[List.length_append,List.map_append];exact h
theorem sA {B:Nat}{w:World}{g n:Nat}{os:Array Obj}(d:Array Int)(hB:B≤w.heap.size)(hg:B≤g):Below B w (grow (putRow (Value.int .i64) (Sort.ahead w n) g 0 d) os):=
 (Below.refl B w).grown (grownBy_sortedI d) hB (λk e=>by cases e;exact hg)
theorem sC (w:World)(x:LotD):Calls Tryz.prog 226 #[x.agg] w λe w'=>TB (¬jY x) e∧Below w.heap.size w w':=by
 have HM:=hid (qp (w.alloc (.cells #[.int .i64 x.id,.int .i64 x.seller,.int .i64 x.inst,.int .i64 x.qty] 109)) x);unfold LotD.agg at HM ⊢
 go_enter Tryz.func226,Tryz.ntmps226
 go_wp2_with fail
 refine HM.out.mono ?_;rintro e w1 ⟨⟨b,hb,rfl⟩,hb1⟩;have HB:=hid (kc hb1);have HX:=hid hb;clear hb hb1;go_wp2;go_ret;exact⟨⟨_,by rw[← HX.out];cases b<;>simp,rfl⟩,HB.out⟩
theorem sD (w:World):Calls Tryz.prog 224 #[.slice none 0 0] w λe w'=>e = .returned (.slice none 0 0)∧w'=w:=by
 go_enter Tryz.func224,Tryz.ntmps224
 go_wp2;go_ret;exact⟨rfl,rfl⟩
theorem sE (w:World)(F:Nat→Prop)(sv:Value)(m:List LotD)(hx:LotsAt F w sv m)(hlen:m.length≤4398046511104) :
  Calls Tryz.prog 225 #[sv,.func (.func 226) #[] #[]] w λe w'=>TB (¬∀x∈m,jY x) e∧Below w.heap.size w w':=by
 refine(nw w F sv m hx hlen 226 (enters_of Tryz.func226 (by kernel_rfl) rfl) (λx=>tf (¬jY x)) (λW k hk _=>(sC W m[k]).mono (by rintro e w' ⟨h1,h2⟩;exact⟨h1.tf,h2⟩))).mono ?_;rintro e w' ⟨rfl,hb⟩;refine⟨⟨_,?_,rfl⟩,hb⟩;rw[List.any_eq_true];constructor
 ·rintro⟨x,hx,hp⟩ h
  exact tf_iff.1 hp (h x hx)
 ·intro h
  refine Classical.byContradiction λhn=>h λx hx=>?_;refine Classical.byContradiction λhx2=>hn ⟨x,hx,je hx2⟩
set_option maxRecDepth 100000 in
theorem sF (F G:Nat→Prop)(w:World)(lv mv:Value)(l:List OpnD)(m:List LotD)(hl:OpnsAt F w lv l)(hm:LotsAt G w mv m)(hll:l.length≤4398046511104)(hml:m.length≤4398046511104) :
  Calls Tryz.prog 168 #[lv,mv] w λe w'=>TB (jZ l m) e∧Below w.heap.size w w':=by
 obtain⟨a0,c0,rfl⟩:=hl.shape;obtain⟨a1,c1,rfl⟩:=hm.shape;have HL:=hid hl;have HM:=hid hm;clear hl hm;obtain⟨P,hP⟩:∃P,P=jZ l m:=⟨_,rfl⟩;rw[← hP];have HP:=hid hP;unfold jZ at HP;clear hP;by_cases h1:l.length≤128;rotate_left
 ·have HNO:=hid (show ¬P from λh=>by rw[HP.out]at h;exact h1 h.1)
  have hd:decide ((128:Int)<(l.length:Int))=true:=by simp;omega
  clear h1
  go_enter Tryz.func168,Tryz.ntmps168
  go_wp2;go_ret;exact⟨TB.no HNO.out,Below.refl _ _⟩
 have hd:decide ((128:Int)<(l.length:Int))=false:=by simp;omega
 by_cases h2:m.length≤32;rotate_left
 ·have HNO:=hid (show ¬P from λh=>by rw[HP.out]at h;exact h2 h.2.1)
  have hd2:decide ((32:Int)<(m.length:Int))=true:=by simp;omega
  clear h1 h2
  go_enter Tryz.func168,Tryz.ntmps168
  go_wp2;go_ret;exact⟨TB.no HNO.out,Below.refl _ _⟩
 have hd2:decide ((32:Int)<(m.length:Int))=false:=by simp;omega
 have H12:=hid (And.intro h1 h2);clear h1 h2;have HRO:=hid (rp F w _ l HL.out hll)
 go_enter Tryz.func168,Tryz.ntmps168
 go_wp2_with fail
 refine HRO.out.mono ?_;rintro e w1 ⟨hr1,hb1⟩;have HB1:=hid hb1;clear hb1;by_cases h3:jC (λ(a b:OpnD)=>ju a.acct a.id b.acct b.id) l;rotate_left
 ·have HNO:=hid (show ¬P from λh=>by rw[HP.out]at h;exact h3 h.2.2.1)
  obtain rfl:=hr1.neg h3;clear h3 hr1;go_wp2;go_ret;exact⟨TB.no HNO.out,HB1.out⟩
 obtain rfl:=hr1.pos h3;have H3:=hid h3;clear h3 hr1;have HRL:=hid (rq G w1 _ m (HM.out.pure HB1.out) hml)
 go_wp2_with fail
 refine HRL.out.mono ?_;rintro e w2 ⟨hr2,hb2⟩;have HB2:=hid (HB1.out.trans (hb2.mono HB1.out.size));clear hb2;by_cases h4:jC (λ(a b:LotD)=>a.id<b.id) m;rotate_left
 ·have HNO:=hid (show ¬P from λh=>by rw[HP.out]at h;exact h4 h.2.2.2.1)
  obtain rfl:=hr2.neg h4;clear h4 hr2;go_wp2;go_ret;exact⟨TB.no HNO.out,HB2.out⟩
 obtain rfl:=hr2.pos h4;have H4:=hid h4;clear h4 hr2 HRL HRO HB1;obtain⟨B,hB⟩:∃B,B=w.heap.size:=⟨_,rfl⟩;have HBB:=hid hB;obtain⟨ns,hns⟩:∃ns,ns=l.map (·.id):=⟨_,rfl⟩;have HNS:=hid hns;have hnl:l.length=ns.length:=by rw[hns,List.length_map]
 have HNL:=hid hnl;clear hns hB hnl;go_wp2
 go_loopw [5,28] (λlz i wr=>∃k:Nat,i = .int .i64 k∧k≤l.length∧Hid (OwnIs wr B lz (ns.take k))∧Hid (Below w.heap.size w wr)∧Hid (∀j (h:j<l.length),j<k→jX l[j])) (λ_ i _=>l.length-(intOf i).toNat)
 case atStart=>exact⟨0,rfl,by omega,hid (World.ownsRow_nil _ _ _ _),HB2,hid (λj _ h=>absurd h (Nat.not_lt_zero _))⟩
 case round=>
  obtain⟨k,rfl,hk,HO,HB,HG⟩:=hrel;obtain⟨l0,n0,c9,rfl⟩:=aD HO.out;by_cases hlt:k<l.length
  ·obtain⟨b,o,rfl,hF,hbl,g0,g1,g2,g3,g4,g5⟩:=OpnD.at (HL.out.pure HB.out) k hlt
   obtain⟨x,hx⟩:∃x,x=l[k]:=⟨_,rfl⟩;rw[← hx]at g0 g1 g2 g3 g4 g5;have hlk:k<ns.length:=by rw[← HNL.out];exact hlt
   have HNM:=hid (show ns.take (k+1)=ns.take k++[x.id]from by
    rw[List.take_succ_eq_append_getElem hlk,hx];congr 2;have h9:=HNS.out;subst h9;rw[List.getElem_map])
   have HTL:=hid (show(ns.take k).length=k from by rw[List.length_take];omega);have HXX:=hid hx;obtain⟨W2,hW2⟩:∃W2,W2=wr.alloc (.cells #[.int .i64 x.acct,.int .i64 x.id,.int .i64 x.inst,.int .u8 x.side,.int .i64 x.price,.int .i64 x.left] 106):=⟨_,rfl⟩;have HMY:=hid (qo W2 x);unfold OpnD.agg at HMY;rw[hW2]at HMY;clear hF hx hW2
   go_wp2_with fail
   refine HMY.out.mono ?_;rintro e w3 ⟨h3,hb3⟩;have HB3:=hid (HB.out.trans ((kc hb3).mono HB.out.size));have d1:=ka hb3 1 _ rfl;have HO3:=hid (show OwnIs w3 B (.slice l0 n0 c9) (ns.take k)from(Fr.pure (S:=λ_=>False) (kc hb3)).ownsRow HO.out (λ_ _ h=>h));have hsz3:wr.heap.size<w3.heap.size:=aA d1;clear hb3;by_cases hmy:jX x;rotate_left
   ·have HNO:=hid (show ¬P from λh=>by rw[HP.out]at h;exact hmy (by rw[HXX.out];exact h.2.2.2.2.1 _ (List.getElem_mem hlt)))
    obtain rfl:=h3.neg hmy;clear hmy h3;go_wp2;go_ret;exact⟨TB.no HNO.out,HB3.out⟩
   obtain rfl:=h3.pos hmy;have HG2:=hid (show ∀j (h:j<l.length),j<k+1→jX l[j]from λj hj hj2=>by
    by_cases hjk:j=k
    ·subst hjk;rw[← HXX.out];exact hmy
    ·exact HG.out j hj (by omega))
   have hown:=HO3.out;unfold OwnIs at hown;rw[HTL.out]at hown;have hsz:=HB3.out.size;have HO4:=hid (hown.alloc (.cells #[.int .i64 x.id] 2));obtain⟨i0,hi,hz0,hz1,hz2⟩:=info_parts Tryz.infoIs64;have HI:=hid hi;have HZ0:=hid hz0;have HZ1:=hid hz1;have HZ2:=hid hz2;have HH:=HBB.out;clear hi hz0 hz1 hz2 hown hmy h3 g0 g1 g2 g3 g4 g5 HO
   go_wp2_with (first
    | (refine wpList_append_lies _ rfl _ _ 45 rfl B 2 i0 _ 1 8 Tryz.underlying45 HI.out HZ0.out HZ1.out HZ2.out rfl (by omega) _ k _ rfl HO4.out ⟨w3.heap.size,0,none⟩ 1 1 [.int .i64 x.id] rfl rfl (aE rfl rfl) (by simp[Value.oneCell']) (by omega) (by unfold maxLen;omega) (by omega) (by simp;omega) (w3.heap.size+1) (by simp) ?_;intro gg cap w8 hown8 hgrow8 hat8 hlt8))
   go_roundw
   case rel=>
    refine⟨k+1,by go_num,by omega,hid ?_,hid ?_,HG2⟩
    ·rw[HNM.out]
     apply sz;rw[HTL.out];exact hown8
    ·exact(HB3.out.alloc hsz _).grown hgrow8 (by simp;omega) (λj e=>by have:=nJ HO3.out (by exact e);omega)
   case measure=>simp[intOf];omega
  ·have hall:ns.take k=ns:=List.take_of_length_le (by rw[← HNL.out];omega)
   have hown:OwnIs wr B (.slice l0 n0 c9) ns:=by have:=HO.out;rw[hall]at this;exact this
   have HMAY:=hid (show ∀o∈l,jX o from λo ho=>by
    obtain⟨j,hj,rfl⟩:=List.getElem_of_mem ho;exact HG.out j hj (by omega))
   have HFIN:=hid (show P↔ns.Nodup∧∀x∈m,jY x from by
    rw[HP.out,HNS.out];exact⟨λh=>⟨h.2.2.2.2.2.1,h.2.2.2.2.2.2⟩,λh=>⟨H12.out.1,H12.out.2,H3.out,H4.out,HMAY.out,h.1,h.2⟩⟩)
   have hBw:B≤wr.heap.size:=by rw[HBB.out];exact HB.out.size
   clear hall HO HG
   rcases hown.2 with⟨h0,hn⟩|⟨g,cap,cur,h0,hg,hh,hn,hcm,hcs,ht⟩
   ·cases h0
    have hnil:ns=[]:=List.eq_nil_of_length_eq_zero hn;have hlz:l.length=0:=by rw[HNL.out];exact hn
    have HLZ:=hid hlz;have hlz2:((0:Int) == (l.length:Int))=true:=by rw[hlz];rfl
    have HND:=hid (show ns.Nodup from by rw[hnil];exact List.nodup_nil);have HLO:=hid (sE wr G _ m (HM.out.pure HB.out) hml);have HKL:=hid hlt;clear hown hn hnil hlz hlt
    go_wp2_with fail
    refine(AnyM.slices_Sort_int_none Tryz.laysSlM5X none 0 wr).mono ?_;rintro e w4 ⟨rfl,rfl⟩
    go_wp2_with fail
    refine(sD _).mono ?_;rintro e w5 ⟨rfl,rfl⟩
    go_wp2_with fail
    refine HLO.out.mono ?_;rintro e w6 ⟨⟨bb,hbb,rfl⟩,hb6⟩;have HX:=hid (show(!bb)=true↔P from by
     rw[HFIN.out];constructor
     ·intro h
      refine⟨HND.out,?_⟩;refine Classical.byContradiction λhn=>?_;rw[hbb.2 hn]at h;cases h
     ·intro h
      cases bb
      ·rfl
      ·exact absurd h.2 (hbb.1 rfl))
    have HB6:=hid (HB.out.trans (hb6.mono HB.out.size));clear hbb hb6;go_wp2;go_ret;exact⟨⟨_,HX.out,rfl⟩,HB6.out⟩
   ·cases h0
    have hlt9:=lt_of_block hh;have hH:Holds (Value.int .i64) wr g 0 ns.toArray:=holds_of_blockI hh (by rw[Nat.mul_one]at ht;exact ht);have hnz:ns.length≤4398046511104:=by rw[← HNL.out];exact hll
    have HSO:=hid (AnyM.slices_Sort_int Tryz.laysSlM5X g 0 c9 ns wr hH hlt9 (by omega));obtain⟨srt,hsrt⟩:∃srt,srt=ns.mergeSort λx y=>decide (x≤y):=⟨_,rfl⟩;have hsl:srt.length=ns.length:=by rw[hsrt,List.length_mergeSort]
    have HND:=hid (show(∀j (h:j+1<srt.length),srt[j+1]≠srt[j])↔ns.Nodup from by
     rw[← ny,← nA,← hsrt,hsl])
    have HSL:=hid hsl;have HSR:=hid hsrt;have HHH:=hid (And.intro hh (And.intro hn (And.intro hcm hcs)));have HKL:=hid hlt;have HNZ:=hid hnz;clear hh hn hcm hcs ht hH hsrt hsl hlt hnz hown
    go_wp2_with fail
    refine HSO.out.mono ?_;rintro e w4 ⟨rfl,n4,os4,h4⟩;rw[← HSR.out]at h4;have hb4:Below B wr w4:=by rw[h4];exact sA _ hBw hg
    have ho4:OwnIs w4 B (.slice (some ⟨g,0,none⟩) srt.length c9) srt:=by
     have:=ownsRow_sortedI (n:=n4) (os:=os4) (ss:=ns) (ts:=srt) (base:=B) HSL.out hg HHH.out.1 HHH.out.2.1 HHH.out.2.2.1 HHH.out.2.2.2;rw[← h4]at this;show w4.ownsRow B _ 1 _ srt.length _;rw[HSL.out];exact this
    have HB4:=hid (show Below w.heap.size w w4 from HB.out.trans (by rw[← HBB.out];exact hb4));obtain⟨cur4,hh4,hn4,hcs4,ht4⟩:∃cur4,w4.heap[g]?=some (.cells cur4 2 (0,0))∧srt.length≤c9∧cur4.size=c9∧cur4.toList.take srt.length=srt.map (Value.int .i64):=by
     rcases ho4.2 with⟨h0,_⟩|⟨g',cap',cur',h0,_,hh',hn',_,hcs',ht'⟩
     ·cases h0
     ·cases h0
      exact⟨cur',hh',hn',by rw[hcs',Nat.mul_one],by rw[Nat.mul_one]at ht';exact ht'⟩
    have hrow:w4.rowIs g 2 c9 (λi=>cur4.getD i undef):=⟨cur4,hh4,hcs4,λi hi=>by simp[Array.getD,hcs4,hi]⟩;have hfe:∀i (h:i<srt.length),(λi=>cur4.getD i undef) i = .int .i64 srt[i]:=λi hi=>by
     have h1:(cur4.toList.take srt.length)[i]?=(srt.map (Value.int .i64))[i]?:=by rw[ht4]
     rw[List.getElem?_take_of_lt hi,List.getElem?_map,List.getElem?_eq_getElem hi]at h1;have h2:cur4[i]?=some (.int .i64 srt[i]):=by rw[← Array.getElem?_toList];exact h1
     have h3:i<cur4.size:=by omega
     simp only[Array.getD,dif_pos h3];rw[Array.getElem?_eq_getElem h3]at h2;exact Option.some.inj h2
    have hcp:Calls Tryz.prog 224 #[.slice (some ⟨g,0,none⟩) srt.length c9] w4 λe w'=>
      (∃m c2:Nat,e = .returned (.slice (some ⟨g,0,none⟩) m c2)∧(m=srt.length↔ns.Nodup)∧m≤srt.length)∧Fr (λk=>k=g) w4 w':=by
     refine(sy w4 g c9 c9 srt _ hrow hfe hn4 hn4 (by rw[HSL.out];exact HNZ.out)).mono ?_;rintro e w' ⟨⟨m9,c2,he,h1,h2⟩,h3⟩;exact⟨⟨m9,c2,he,h1.trans HND.out,h2⟩,h3⟩
    rw[HSL.out]at hcp;have HCP:=hid hcp;clear h4 hb4 ho4 hh4 hn4 hcs4 ht4 hrow hfe hcp HSO HHH
    go_wp2_with fail
    refine HCP.out.mono ?_;rintro e w5 ⟨⟨mm,c5,rfl,hmi,hmle⟩,hf5⟩;have HB5:=hid (show Below w.heap.size w w5 from HB4.out.trans (hf5.below (B:=w.heap.size) HB4.out.size (λk hk e=>by have:=HBB.out;omega)));have HMI:=hid hmi;clear hmi hf5;by_cases hmm:mm=ns.length
    ·have HDD:=hid (show ns.Nodup from HMI.out.1 hmm)
     have hq:((mm:Int) == (l.length:Int))=true:=by rw[beq_iff_eq,HNL.out,hmm]
     have HLO:=hid (sE w5 G _ m (HM.out.pure HB5.out) hml);clear hmm
     go_wp2_with fail
     refine HLO.out.mono ?_;rintro e w6 ⟨⟨bb,hbb,rfl⟩,hb6⟩;have HX:=hid (show(!bb)=true↔P from by
      rw[HFIN.out];constructor
      ·intro h
       refine⟨HDD.out,?_⟩;refine Classical.byContradiction λhn=>?_;rw[hbb.2 hn]at h;cases h
      ·intro h
       cases bb
       ·rfl
       ·exact absurd h.2 (hbb.1 rfl))
     have HB6:=hid (HB5.out.trans (hb6.mono HB5.out.size));clear hbb hb6;go_wp2;go_ret;exact⟨⟨_,HX.out,rfl⟩,HB6.out⟩
    ·have HNO:=hid (show ¬P from λh=>hmm (HMI.out.2 (HFIN.out.1 h).1))
     have hq:((mm:Int) == (l.length:Int))=false:=by rw[beq_eq_false_iff_ne,HNL.out];omega
     clear hmm;go_wp2;go_ret;exact⟨TB.no HNO.out,HB5.out⟩
end
section
open Go.RowKit Go.Sort
def sG (l:List PosD)(k:Nat)(h:k<l.length):Prop:=j2 l[k]∧∀j (hj:k=j+1),ju (l[j]).acct (l[j]).inst (l[k]).acct (l[k]).inst
theorem sH (l:List PosD):j3 l↔∀k (h:k<l.length),sG l k h:=by
 unfold j3 sG jC;constructor
 ·rintro⟨h1,h2⟩ k hk
  refine⟨h1 _ (List.getElem_mem hk),λj hj=>?_⟩;subst hj;exact h2 j hk
 ·intro h
  refine⟨λp hp=>?_,λi hi=>(h (i+1) hi).2 i rfl⟩;obtain⟨k,hk,rfl⟩:=List.getElem_of_mem hp;exact(h k hk).1
theorem sI (w:World)(n:Int)(b:Bool)(hb:b=tf (j1 n)):Calls Tryz.prog 228 #[.int .i64 n] w λe w'=>e = .returned (.bool b)∧Below w.heap.size w w':=
 (qa w n).mono (by rintro e w' ⟨h,rfl⟩;exact⟨by rw[hb];exact h.tf,Below.refl _ _⟩)
set_option maxRecDepth 100000 in
theorem sJ (F:Nat→Prop)(w:World)(sv:Value)(l:List PosD)(h:PossAt F w sv l)(hlen:l.length≤4398046511104) :
  Calls Tryz.prog 169 #[sv] w λe w'=>TB (j3 l) e∧Below w.heap.size w w':=by
 obtain⟨a0,c0,rfl⟩:=h.shape;have HX:=hid h;clear h;obtain⟨P,hP⟩:∃P,P=j3 l:=⟨_,rfl⟩;rw[← hP];have HP:=hid hP;clear hP
 go_enter Tryz.func169,Tryz.ntmps169
 go_wp2
 go_loopw [8] (λi wr=>∃k:Nat,i = .int .i64 (k:Int)∧k≤l.length∧Hid (Below w.heap.size w wr)∧Hid (∀j (h:j<l.length),j<k→sG l j h)) (λi _=>l.length-(intOf i).toNat)
 case atStart=>exact⟨0,rfl,by omega,hid (Below.refl _ _),hid (λj _ h=>absurd h (Nat.not_lt_zero _))⟩
 case round=>
  obtain⟨k,rfl,hk,HB,HG⟩:=hrel;by_cases hlt:k<l.length
  ·obtain⟨b,o,rfl,hFb,hbl,g0,g1,g2,g3,g4,g5⟩:=PosD.at (HX.out.pure HB.out) k hlt
   obtain⟨x,hx⟩:∃x,x=l[k]:=⟨_,rfl⟩;rw[← hx]at g0 g1 g2 g3 g4 g5;obtain⟨n,hn⟩:∃n,n=wr.heap.size:=⟨_,rfl⟩;obtain⟨W2,hW2⟩:∃W2,W2=wr.alloc (.cells #[.int .i64 x.acct,.int .i64 x.inst,.int .i64 x.bought,.int .i64 x.sold,.int .i64 x.spent,.int .i64 x.got] 112):=⟨_,rfl⟩;have hb0:Below wr.heap.size wr W2:=by rw[hW2];exact ke _ _
   have k1:W2.heap[n]?=some (.cells #[.int .i64 x.acct,.int .i64 x.inst,.int .i64 x.bought,.int .i64 x.sold,.int .i64 x.spent,.int .i64 x.got] 112 (0,0)):=by rw[hW2,hn];exact heap_alloc_new _ _
   have HB2:=hid (HB.out.trans (hb0.mono HB.out.size));have j_0:W2.cell? ⟨n,0,none⟩=some (.int .i64 x.acct):=(cell_of_row _ _ _ _ _ _ k1).trans rfl;have k_0:=cell_regrown j_0;have j_1:W2.cell? ⟨n,1,none⟩=some (.int .i64 x.inst):=(cell_of_row _ _ _ _ _ _ k1).trans rfl;have k_1:=cell_regrown j_1;have j_2:W2.cell? ⟨n,2,none⟩=some (.int .i64 x.bought):=(cell_of_row _ _ _ _ _ _ k1).trans rfl;have k_2:=cell_regrown j_2;have j_3:W2.cell? ⟨n,3,none⟩=some (.int .i64 x.sold):=(cell_of_row _ _ _ _ _ _ k1).trans rfl;have k_3:=cell_regrown j_3;have j_4:W2.cell? ⟨n,4,none⟩=some (.int .i64 x.spent):=(cell_of_row _ _ _ _ _ _ k1).trans rfl;have k_4:=cell_regrown j_4;have j_5:W2.cell? ⟨n,5,none⟩=some (.int .i64 x.got):=(cell_of_row _ _ _ _ _ _ k1).trans rfl;have k_5:=cell_regrown j_5;obtain⟨b1,hb1⟩:∃b,b=tf (j1 x.bought):=⟨_,rfl⟩;have q1:∀d os,Calls Tryz.prog 228 #[.int .i64 x.bought] (grow (redrawn W2 d) os) λe w''=>e = .returned (.bool b1)∧∃p:Regrown,w''=grow (redrawn W2 p.d) p.os:=λd os=>Calls.regrown_of (sI _ x.bought b1 hb1);have HQ1:=hid hb1;clear hb1;obtain⟨b2,hb2⟩:∃b,b=tf (j1 x.sold):=⟨_,rfl⟩;have q2:∀d os,Calls Tryz.prog 228 #[.int .i64 x.sold] (grow (redrawn W2 d) os) λe w''=>e = .returned (.bool b2)∧∃p:Regrown,w''=grow (redrawn W2 p.d) p.os:=λd os=>Calls.regrown_of (sI _ x.sold b2 hb2);have HQ2:=hid hb2;clear hb2;obtain⟨b3,hb3⟩:∃b,b=tf (j1 x.spent):=⟨_,rfl⟩;have q3:∀d os,Calls Tryz.prog 228 #[.int .i64 x.spent] (grow (redrawn W2 d) os) λe w''=>e = .returned (.bool b3)∧∃p:Regrown,w''=grow (redrawn W2 p.d) p.os:=λd os=>Calls.regrown_of (sI _ x.spent b3 hb3);have HQ3:=hid hb3;clear hb3;obtain⟨b4,hb4⟩:∃b,b=tf (j1 x.got):=⟨_,rfl⟩;have q4:∀d os,Calls Tryz.prog 228 #[.int .i64 x.got] (grow (redrawn W2 d) os) λe w''=>e = .returned (.bool b4)∧∃p:Regrown,w''=grow (redrawn W2 p.d) p.os:=λd os=>Calls.regrown_of (sI _ x.got b4 hb4);have HQ4:=hid hb4;clear hb4;have HXX:=hid hx;have HPM:=hid (show P→j2 x from λh=>by rw[HP.out]at h;rw[HXX.out];exact((sH l).1 h k hlt).1);clear hFb hx k1;have HB0:=hid hb0;clear hb0;have q5:∀d os:Nat,True:=λ_ _=>trivial;obtain⟨e0,he0⟩:∃e:Bool,decide (1≤x.acct)=e:=⟨_,rfl⟩;cases e0
   case false=>
    have HNO:=hid (show ¬P from λhp=>by have h:=HPM.out hp;unfold j2 ji at h;have:=of_decide_eq_false he0;omega)
    go_wp2_with fail
    rw[← hW2]
    try rw[← hn]
    clear hW2 hn;refine wp_region_quiet_below (by kernel_rfl) (by kernel_rfl) ?_
    repeat (go_big_quiet_step (first|with_reducible exact q1 _ _|with_reducible exact q2 _ _|with_reducible exact q3 _ _|with_reducible exact q4 _ _|with_reducible exact q5 _ _))
    refine wpQuiet_nil ?_;intro _ hw';obtain⟨⟨dq,osq⟩,hw''⟩:=hw';subst hw'';have HB3:=hid (HB2.out.trans ((below_regrown W2 dq osq).mono HB2.out.size))
    generalize grow (redrawn W2 dq) osq=w3 at *
    go_wp2;go_ret;exact⟨TB.no HNO.out,HB3.out⟩
   obtain⟨e1,he1⟩:∃e:Bool,decide (x.acct≤64)=e:=⟨_,rfl⟩;cases e1
   case false=>
    have HNO:=hid (show ¬P from λhp=>by have h:=HPM.out hp;unfold j2 ji at h;have:=of_decide_eq_false he1;omega)
    go_wp2_with fail
    rw[← hW2]
    try rw[← hn]
    clear hW2 hn;refine wp_region_quiet_below (by kernel_rfl) (by kernel_rfl) ?_
    repeat (go_big_quiet_step (first|with_reducible exact q1 _ _|with_reducible exact q2 _ _|with_reducible exact q3 _ _|with_reducible exact q4 _ _|with_reducible exact q5 _ _))
    refine wpQuiet_nil ?_;intro _ hw';obtain⟨⟨dq,osq⟩,hw''⟩:=hw';subst hw'';have HB3:=hid (HB2.out.trans ((below_regrown W2 dq osq).mono HB2.out.size))
    generalize grow (redrawn W2 dq) osq=w3 at *
    go_wp2;go_ret;exact⟨TB.no HNO.out,HB3.out⟩
   obtain⟨e2,he2⟩:∃e:Bool,decide (1≤x.inst)=e:=⟨_,rfl⟩;cases e2
   case false=>
    have HNO:=hid (show ¬P from λhp=>by have h:=HPM.out hp;unfold j2 ji at h;have:=of_decide_eq_false he2;omega)
    go_wp2_with fail
    rw[← hW2]
    try rw[← hn]
    clear hW2 hn;refine wp_region_quiet_below (by kernel_rfl) (by kernel_rfl) ?_
    repeat (go_big_quiet_step (first|with_reducible exact q1 _ _|with_reducible exact q2 _ _|with_reducible exact q3 _ _|with_reducible exact q4 _ _|with_reducible exact q5 _ _))
    refine wpQuiet_nil ?_;intro _ hw';obtain⟨⟨dq,osq⟩,hw''⟩:=hw';subst hw'';have HB3:=hid (HB2.out.trans ((below_regrown W2 dq osq).mono HB2.out.size))
    generalize grow (redrawn W2 dq) osq=w3 at *
    go_wp2;go_ret;exact⟨TB.no HNO.out,HB3.out⟩
   obtain⟨e3,he3⟩:∃e:Bool,decide (x.inst≤16)=e:=⟨_,rfl⟩;cases e3
   case false=>
    have HNO:=hid (show ¬P from λhp=>by have h:=HPM.out hp;unfold j2 ji at h;have:=of_decide_eq_false he3;omega)
    go_wp2_with fail
    rw[← hW2]
    try rw[← hn]
    clear hW2 hn;refine wp_region_quiet_below (by kernel_rfl) (by kernel_rfl) ?_
    repeat (go_big_quiet_step (first|with_reducible exact q1 _ _|with_reducible exact q2 _ _|with_reducible exact q3 _ _|with_reducible exact q4 _ _|with_reducible exact q5 _ _))
    refine wpQuiet_nil ?_;intro _ hw';obtain⟨⟨dq,osq⟩,hw''⟩:=hw';subst hw'';have HB3:=hid (HB2.out.trans ((below_regrown W2 dq osq).mono HB2.out.size))
    generalize grow (redrawn W2 dq) osq=w3 at *
    go_wp2;go_ret;exact⟨TB.no HNO.out,HB3.out⟩
   cases b1
   case false=>
    have HNO:=hid (show ¬P from λhp=>by have h:=HPM.out hp;unfold j2 at h;have h2:=HQ1.out;rw[je (by first|exact h.2.2.1|exact h.2.2.2.1|exact h.2.2.2.2.1|exact h.2.2.2.2.2.1)]at h2;cases h2)
    go_wp2_with fail
    rw[← hW2]
    try rw[← hn]
    clear hW2 hn;refine wp_region_quiet_below (by kernel_rfl) (by kernel_rfl) ?_
    repeat (go_big_quiet_step (first|with_reducible exact q1 _ _|with_reducible exact q2 _ _|with_reducible exact q3 _ _|with_reducible exact q4 _ _|with_reducible exact q5 _ _))
    refine wpQuiet_nil ?_;intro _ hw';obtain⟨⟨dq,osq⟩,hw''⟩:=hw';subst hw'';have HB3:=hid (HB2.out.trans ((below_regrown W2 dq osq).mono HB2.out.size))
    generalize grow (redrawn W2 dq) osq=w3 at *
    go_wp2;go_ret;exact⟨TB.no HNO.out,HB3.out⟩
   have HT1:=hid (tf_iff.1 HQ1.out.symm);cases b2
   case false=>
    have HNO:=hid (show ¬P from λhp=>by have h:=HPM.out hp;unfold j2 at h;have h2:=HQ2.out;rw[je (by first|exact h.2.2.1|exact h.2.2.2.1|exact h.2.2.2.2.1|exact h.2.2.2.2.2.1)]at h2;cases h2)
    go_wp2_with fail
    rw[← hW2]
    try rw[← hn]
    clear hW2 hn;refine wp_region_quiet_below (by kernel_rfl) (by kernel_rfl) ?_
    repeat (go_big_quiet_step (first|with_reducible exact q1 _ _|with_reducible exact q2 _ _|with_reducible exact q3 _ _|with_reducible exact q4 _ _|with_reducible exact q5 _ _))
    refine wpQuiet_nil ?_;intro _ hw';obtain⟨⟨dq,osq⟩,hw''⟩:=hw';subst hw'';have HB3:=hid (HB2.out.trans ((below_regrown W2 dq osq).mono HB2.out.size))
    generalize grow (redrawn W2 dq) osq=w3 at *
    go_wp2;go_ret;exact⟨TB.no HNO.out,HB3.out⟩
   have HT2:=hid (tf_iff.1 HQ2.out.symm);cases b3
   case false=>
    have HNO:=hid (show ¬P from λhp=>by have h:=HPM.out hp;unfold j2 at h;have h2:=HQ3.out;rw[je (by first|exact h.2.2.1|exact h.2.2.2.1|exact h.2.2.2.2.1|exact h.2.2.2.2.2.1)]at h2;cases h2)
    go_wp2_with fail
    rw[← hW2]
    try rw[← hn]
    clear hW2 hn;refine wp_region_quiet_below (by kernel_rfl) (by kernel_rfl) ?_
    repeat (go_big_quiet_step (first|with_reducible exact q1 _ _|with_reducible exact q2 _ _|with_reducible exact q3 _ _|with_reducible exact q4 _ _|with_reducible exact q5 _ _))
    refine wpQuiet_nil ?_;intro _ hw';obtain⟨⟨dq,osq⟩,hw''⟩:=hw';subst hw'';have HB3:=hid (HB2.out.trans ((below_regrown W2 dq osq).mono HB2.out.size))
    generalize grow (redrawn W2 dq) osq=w3 at *
    go_wp2;go_ret;exact⟨TB.no HNO.out,HB3.out⟩
   have HT3:=hid (tf_iff.1 HQ3.out.symm);cases b4
   case false=>
    have HNO:=hid (show ¬P from λhp=>by have h:=HPM.out hp;unfold j2 at h;have h2:=HQ4.out;rw[je (by first|exact h.2.2.1|exact h.2.2.2.1|exact h.2.2.2.2.1|exact h.2.2.2.2.2.1)]at h2;cases h2)
    go_wp2_with fail
    rw[← hW2]
    try rw[← hn]
    clear hW2 hn;refine wp_region_quiet_below (by kernel_rfl) (by kernel_rfl) ?_
    repeat (go_big_quiet_step (first|with_reducible exact q1 _ _|with_reducible exact q2 _ _|with_reducible exact q3 _ _|with_reducible exact q4 _ _|with_reducible exact q5 _ _))
    refine wpQuiet_nil ?_;intro _ hw';obtain⟨⟨dq,osq⟩,hw''⟩:=hw';subst hw'';have HB3:=hid (HB2.out.trans ((below_regrown W2 dq osq).mono HB2.out.size))
    generalize grow (redrawn W2 dq) osq=w3 at *
    go_wp2;go_ret;exact⟨TB.no HNO.out,HB3.out⟩
   have HT4:=hid (tf_iff.1 HQ4.out.symm);obtain⟨z1,hz1⟩:∃e:Bool,(x.bought == 0)=e:=⟨_,rfl⟩;obtain⟨z2,hz2⟩:∃e:Bool,(x.sold == 0)=e:=⟨_,rfl⟩;cases z1
   case false=>
    have HMY:=hid (show j2 x from⟨⟨of_decide_eq_true he0,of_decide_eq_true he1⟩,⟨of_decide_eq_true he2,of_decide_eq_true he3⟩,HT1.out,HT2.out,HT3.out,HT4.out,λh=>by rw[h.1]at hz1;simp at hz1⟩);by_cases hk0:k=0
    ·have HNX:=hid (show ∀j (h:j<l.length),j<k+1→sG l j h from λj hj hj2=>by
      have h0:j=k:=by omega
      subst h0;exact⟨by rw[← HXX.out];exact HMY.out,λi hi=>by omega⟩)
     have hgt:decide ((0:Int)<(k:Int))=false:=by rw[hk0];rfl
     have hgt3:decide (0<k)=false:=by rw[hk0];rfl
     have hgt4:¬0<k:=by omega
     have hgt5:¬(0:Int)<(k:Int):=by omega
     have HK0:=hid hk0;clear hk0
     go_wp2_with fail
     rw[← hW2]
     try rw[← hn]
     clear hW2 hn;refine wp_region_quiet_below (by kernel_rfl) (by kernel_rfl) ?_
     repeat (go_big_quiet_step (first|with_reducible exact q1 _ _|with_reducible exact q2 _ _|with_reducible exact q3 _ _|with_reducible exact q4 _ _|with_reducible exact q5 _ _))
     refine wpQuiet_nil ?_;intro _ hw';obtain⟨⟨dq,osq⟩,hw''⟩:=hw';subst hw'';have HB3:=hid (HB2.out.trans ((below_regrown W2 dq osq).mono HB2.out.size))
     generalize grow (redrawn W2 dq) osq=w3 at *
     go_wp2
     go_roundw
     case rel=>exact⟨k+1,by go_num,by omega,HB3,HNX⟩
     case measure=>simp[intOf];omega
    obtain⟨m,rfl⟩:∃m,k=m+1:=⟨k-1,by omega⟩;clear hk0;have hml:m<l.length:=by omega
    obtain⟨b',o',he',_,_,p0,p1,p2,p3,p4,p5⟩:=PosD.at (HX.out.pure HB2.out) m hml;cases he';obtain⟨y,hy⟩:∃y,y=l[m]:=⟨_,rfl⟩;rw[← hy]at p0 p1 p2 p3 p4 p5;have y_0:=cell_regrown p0;have y_1:=cell_regrown p1;have y_2:=cell_regrown p2;have y_3:=cell_regrown p3;have y_4:=cell_regrown p4;have y_5:=cell_regrown p5;have HYY:=hid hy;clear hy;obtain⟨c,hc⟩:∃c,c=orF (qe y.acct x.acct) (qe y.inst x.inst):=⟨_,rfl⟩;have q5:∀d os,Calls Tryz.prog 229 #[.agg #[.int .i64 y.acct,.int .i64 y.inst,.int .i64 y.bought,.int .i64 y.sold,.int .i64 y.spent,.int .i64 y.got],.agg #[.int .i64 x.acct,.int .i64 x.inst,.int .i64 x.bought,.int .i64 x.sold,.int .i64 x.spent,.int .i64 x.got]] (grow (redrawn W2 d) os) λe w''=>e = .returned (.int .i64 c)∧∃p:Regrown,w''=grow (redrawn W2 p.d) p.os:=λd os=>Calls.regrown_of ((ro _ y x).mono (by rintro e w' ⟨h1,h2⟩;exact⟨by rw[hc];exact h1,h2⟩));have HCL:=hid (show c<0↔ju y.acct y.inst x.acct x.inst from by rw[hc];exact qk);clear hc;have hgt:decide ((0:Int)<((m+1:Nat):Int))=true:=by simp<;>omega
    have hgt2:(0:Int)<(m:Int)+1:=by omega
    have hi0:(0:Int)≤(m:Int):=by omega
    have hi1:(m:Int)<(l.length:Int):=by omega
    have hi4:wrap64 (((m+1:Nat):Int)-1)=(m:Int):=by unfold wrap64;omega
    have hi5:IntKind.i64.wrap (((m+1:Nat):Int)-1)=(m:Int):=by rw[IntKind.wrap_i64];omega
    by_cases hc0:c<0
    ·have hc1:decide ((0:Int)≤c)=false:=by simpa using hc0
     have HNX:=hid (show ∀j (h:j<l.length),j<m+1+1→sG l j h from λj hj hj2=>by
      by_cases hjm:j=m+1
      ·subst hjm
       refine⟨by rw[← HXX.out];exact HMY.out,λi hi=>?_⟩;have:i=m:=by omega
       subst this;rw[← HXX.out,← HYY.out];exact HCL.out.1 hc0
      ·exact HG.out j hj (by omega))
     go_wp2_with fail
     rw[← hW2]
     try rw[← hn]
     clear hW2 hn;refine wp_region_quiet_below (by kernel_rfl) (by kernel_rfl) ?_
     repeat (go_big_quiet_step (first|with_reducible exact q1 _ _|with_reducible exact q2 _ _|with_reducible exact q3 _ _|with_reducible exact q4 _ _|with_reducible exact q5 _ _))
     refine wpQuiet_nil ?_;intro _ hw';obtain⟨⟨dq,osq⟩,hw''⟩:=hw';subst hw'';have HB3:=hid (HB2.out.trans ((below_regrown W2 dq osq).mono HB2.out.size))
     generalize grow (redrawn W2 dq) osq=w3 at *
     go_wp2
     go_roundw
     case rel=>exact⟨m+1+1,by go_num,by omega,HB3,HNX⟩
     case measure=>simp[intOf];omega
    ·have hc1:decide ((0:Int)≤c)=true:=by simpa using hc0
     have HNO:=hid (show ¬P from λhp=>by
      rw[HP.out]at hp;have h1:=((sH l).1 hp (m+1) hlt).2 m rfl;rw[← HXX.out,← HYY.out]at h1;exact hc0 (HCL.out.2 h1))
     go_wp2_with fail
     rw[← hW2]
     try rw[← hn]
     clear hW2 hn;refine wp_region_quiet_below (by kernel_rfl) (by kernel_rfl) ?_
     repeat (go_big_quiet_step (first|with_reducible exact q1 _ _|with_reducible exact q2 _ _|with_reducible exact q3 _ _|with_reducible exact q4 _ _|with_reducible exact q5 _ _))
     refine wpQuiet_nil ?_;intro _ hw';obtain⟨⟨dq,osq⟩,hw''⟩:=hw';subst hw'';have HB3:=hid (HB2.out.trans ((below_regrown W2 dq osq).mono HB2.out.size))
     generalize grow (redrawn W2 dq) osq=w3 at *
     go_wp2;go_ret;exact⟨TB.no HNO.out,HB3.out⟩
   cases z2
   case false=>
    have HMY:=hid (show j2 x from⟨⟨of_decide_eq_true he0,of_decide_eq_true he1⟩,⟨of_decide_eq_true he2,of_decide_eq_true he3⟩,HT1.out,HT2.out,HT3.out,HT4.out,λh=>by rw[h.2]at hz2;simp at hz2⟩);by_cases hk0:k=0
    ·have HNX:=hid (show ∀j (h:j<l.length),j<k+1→sG l j h from λj hj hj2=>by
      have h0:j=k:=by omega
      subst h0;exact⟨by rw[← HXX.out];exact HMY.out,λi hi=>by omega⟩)
     have hgt:decide ((0:Int)<(k:Int))=false:=by rw[hk0];rfl
     have hgt3:decide (0<k)=false:=by rw[hk0];rfl
     have hgt4:¬0<k:=by omega
     have hgt5:¬(0:Int)<(k:Int):=by omega
     have HK0:=hid hk0;clear hk0
     go_wp2_with fail
     rw[← hW2]
     try rw[← hn]
     clear hW2 hn;refine wp_region_quiet_below (by kernel_rfl) (by kernel_rfl) ?_
     repeat (go_big_quiet_step (first|with_reducible exact q1 _ _|with_reducible exact q2 _ _|with_reducible exact q3 _ _|with_reducible exact q4 _ _|with_reducible exact q5 _ _))
     refine wpQuiet_nil ?_;intro _ hw';obtain⟨⟨dq,osq⟩,hw''⟩:=hw';subst hw'';have HB3:=hid (HB2.out.trans ((below_regrown W2 dq osq).mono HB2.out.size))
     generalize grow (redrawn W2 dq) osq=w3 at *
     go_wp2
     go_roundw
     case rel=>exact⟨k+1,by go_num,by omega,HB3,HNX⟩
     case measure=>simp[intOf];omega
    obtain⟨m,rfl⟩:∃m,k=m+1:=⟨k-1,by omega⟩;clear hk0;have hml:m<l.length:=by omega
    obtain⟨b',o',he',_,_,p0,p1,p2,p3,p4,p5⟩:=PosD.at (HX.out.pure HB2.out) m hml;cases he';obtain⟨y,hy⟩:∃y,y=l[m]:=⟨_,rfl⟩;rw[← hy]at p0 p1 p2 p3 p4 p5;have y_0:=cell_regrown p0;have y_1:=cell_regrown p1;have y_2:=cell_regrown p2;have y_3:=cell_regrown p3;have y_4:=cell_regrown p4;have y_5:=cell_regrown p5;have HYY:=hid hy;clear hy;obtain⟨c,hc⟩:∃c,c=orF (qe y.acct x.acct) (qe y.inst x.inst):=⟨_,rfl⟩;have q5:∀d os,Calls Tryz.prog 229 #[.agg #[.int .i64 y.acct,.int .i64 y.inst,.int .i64 y.bought,.int .i64 y.sold,.int .i64 y.spent,.int .i64 y.got],.agg #[.int .i64 x.acct,.int .i64 x.inst,.int .i64 x.bought,.int .i64 x.sold,.int .i64 x.spent,.int .i64 x.got]] (grow (redrawn W2 d) os) λe w''=>e = .returned (.int .i64 c)∧∃p:Regrown,w''=grow (redrawn W2 p.d) p.os:=λd os=>Calls.regrown_of ((ro _ y x).mono (by rintro e w' ⟨h1,h2⟩;exact⟨by rw[hc];exact h1,h2⟩));have HCL:=hid (show c<0↔ju y.acct y.inst x.acct x.inst from by rw[hc];exact qk);clear hc;have hgt:decide ((0:Int)<((m+1:Nat):Int))=true:=by simp<;>omega
    have hgt2:(0:Int)<(m:Int)+1:=by omega
    have hi0:(0:Int)≤(m:Int):=by omega
    have hi1:(m:Int)<(l.length:Int):=by omega
    have hi4:wrap64 (((m+1:Nat):Int)-1)=(m:Int):=by unfold wrap64;omega
    have hi5:IntKind.i64.wrap (((m+1:Nat):Int)-1)=(m:Int):=by rw[IntKind.wrap_i64];omega
    by_cases hc0:c<0
    ·have hc1:decide ((0:Int)≤c)=false:=by simpa using hc0
     have HNX:=hid (show ∀j (h:j<l.length),j<m+1+1→sG l j h from λj hj hj2=>by
      by_cases hjm:j=m+1
      ·subst hjm
       refine⟨by rw[← HXX.out];exact HMY.out,λi hi=>?_⟩;have:i=m:=by omega
       subst this;rw[← HXX.out,← HYY.out];exact HCL.out.1 hc0
      ·exact HG.out j hj (by omega))
     go_wp2_with fail
     rw[← hW2]
     try rw[← hn]
     clear hW2 hn;refine wp_region_quiet_below (by kernel_rfl) (by kernel_rfl) ?_
     repeat (go_big_quiet_step (first|with_reducible exact q1 _ _|with_reducible exact q2 _ _|with_reducible exact q3 _ _|with_reducible exact q4 _ _|with_reducible exact q5 _ _))
     refine wpQuiet_nil ?_;intro _ hw';obtain⟨⟨dq,osq⟩,hw''⟩:=hw';subst hw'';have HB3:=hid (HB2.out.trans ((below_regrown W2 dq osq).mono HB2.out.size))
     generalize grow (redrawn W2 dq) osq=w3 at *
     go_wp2
     go_roundw
     case rel=>exact⟨m+1+1,by go_num,by omega,HB3,HNX⟩
     case measure=>simp[intOf];omega
    ·have hc1:decide ((0:Int)≤c)=true:=by simpa using hc0
     have HNO:=hid (show ¬P from λhp=>by
      rw[HP.out]at hp;have h1:=((sH l).1 hp (m+1) hlt).2 m rfl;rw[← HXX.out,← HYY.out]at h1;exact hc0 (HCL.out.2 h1))
     go_wp2_with fail
     rw[← hW2]
     try rw[← hn]
     clear hW2 hn;refine wp_region_quiet_below (by kernel_rfl) (by kernel_rfl) ?_
     repeat (go_big_quiet_step (first|with_reducible exact q1 _ _|with_reducible exact q2 _ _|with_reducible exact q3 _ _|with_reducible exact q4 _ _|with_reducible exact q5 _ _))
     refine wpQuiet_nil ?_;intro _ hw';obtain⟨⟨dq,osq⟩,hw''⟩:=hw';subst hw'';have HB3:=hid (HB2.out.trans ((below_regrown W2 dq osq).mono HB2.out.size))
     generalize grow (redrawn W2 dq) osq=w3 at *
     go_wp2;go_ret;exact⟨TB.no HNO.out,HB3.out⟩
   have HNO:=hid (show ¬P from λhp=>by have h:=HPM.out hp;unfold j2 at h;exact h.2.2.2.2.2.2 ⟨by simpa using hz1,by simpa using hz2⟩)
   go_wp2_with fail
   rw[← hW2]
   try rw[← hn]
   clear hW2 hn;refine wp_region_quiet_below (by kernel_rfl) (by kernel_rfl) ?_
   repeat (go_big_quiet_step (first|with_reducible exact q1 _ _|with_reducible exact q2 _ _|with_reducible exact q3 _ _|with_reducible exact q4 _ _|with_reducible exact q5 _ _))
   refine wpQuiet_nil ?_;intro _ hw';obtain⟨⟨dq,osq⟩,hw''⟩:=hw';subst hw'';have HB3:=hid (HB2.out.trans ((below_regrown W2 dq osq).mono HB2.out.size))
   generalize grow (redrawn W2 dq) osq=w3 at *
   go_wp2;go_ret;exact⟨TB.no HNO.out,HB3.out⟩
  ·have HY:=hid (show P from by rw[HP.out];exact(sH l).2 (λj hj=>HG.out j hj (by omega)))
   go_wp2;go_ret;exact⟨TB.yes HY.out,HB.out⟩
end
end Go.Proofs.YtaeakdichkhjaaaGreatDoor
