/- A range over a function whose iterator tells what lies in memory. -/
import Derived.Test.YthjjgcfdhkhelaaGreatDoorQAy
import Derived.Test.YthjjgcfdhkhelaaGreatDoorQAw
set_option maxHeartbeats 4000000
set_option maxRecDepth 100000
open Go.Lib(hid)
open Go.Proofs.Tryz
namespace Go.Proofs.YthjjgcfdhkhelaaGreatDoor
section
open Go.RowKit
theorem Tryz.infoIxQ:(prog.info? 99).map (λi=>(i.zero,i.size,i.bytes))=some (some (.pointer none),1,8):=by kernel_rfl
theorem wy (w:World)(q:Nat):Below w.heap.size w (w.drewN q):=⟨rfl,rfl,rfl,Nat.le_refl _,λ_ _=>rfl⟩
theorem wz (st:cZ)(n:List UInt8):(eI st n).2=45∨(eI st n).2=5∨(eI st n).2=0:=by
 unfold eI
 split
 ·exact .inl rfl
 ·split
  ·exact .inr (.inl rfl)
  ·exact .inr (.inr rfl)
theorem wD {w W5 w8:World}{S:Nat→Prop}{g p:Nat}{l:kR}{sv iv:Value}{xs:List (Nat×Value)}{o ob:Obj}(HC:LgC w S g p l sv iv xs)(h:W5.heap[g]?=some o)(hgr:(W5.alloc ob).grownBy w8 iv.ownBlock):w8.heap[g]?=some o:=by
 have hl:=lt_of_block h;have hne:iv.ownBlock≠some g:=λhk=>by
  obtain⟨cur,hcur⟩:=tJ HC.row hk;exact tI HC.cell hcur (by decide) rfl
 refine(hgr.block g (by simp;omega) (by first|exact hne|exact hne.symm)).trans ?_;exact(Below.alloc (Below.refl W5.heap.size W5) (Nat.le_refl _) _).block g hl |>.trans h
theorem wE {w w2 w3:World}{S:Nat→Prop}{g p:Nat}{l:kR}{sv iv:Value}{xs:List (Nat×Value)}{ob:Obj}{x ev q nx gd:Nat}{xv:Value}{m:bI}(HC:LgC w S g p l sv iv xs)
  (HX:w.heap.size≤x) (HXV:∀b,xv.ownBlock=some b→w.heap.size≤b) (HIX:oR w2 x ev q nx gd xv m) (hgr:(w2.alloc ob).grownBy w3 iv.ownBlock) (v:Value):oR (w3.setCell ⟨g,6,none⟩ v) x ev q nx gd xv m:=by
 have F2:Fr (λk=>iv.ownBlock=some k∨k=g) w2 (w3.setCell ⟨g,6,none⟩ v):=
  ((Fr.pure (Below.alloc (Below.refl w2.heap.size w2) (Nat.le_refl _) _)).trans ((sU hgr).mono λk _ e=>.inl e)).setCell ⟨g,6,none⟩ (λ_=>.inr rfl) _
 have hg:=HC.gl;refine HIX.kept F2 ?_ ?_
 ·rintro(h|h)
  ·have:=HC.lt _ (HC.siv _ h);omega
  ·omega
 ·rintro k hk (h|h)
  ·have:=HXV k hk;have:=HC.lt _ (HC.siv _ h);omega
  ·have:=HXV k hk;omega
theorem wn.g0 {w:World}{F:Nat→Prop}{g p b:Nat}{st:cZ}{l:kR}(h:wn w F g p b st l):w.cell? ⟨g,0,none⟩=some (.pointer (some ⟨p,0,none⟩)):=by
 obtain⟨sv,iv,xs,S,hc,_⟩:=id h.lg;exact hc.cs.1
theorem wv.pureB {w W W1:World}{F:Nat→Prop}{g p b:Nat}{st:cZ}{l:kR}(h:wv w F g p b (st,l) W)(hb:Below W.heap.size W W1):wv w F g p b (st,l) W1:=by
 obtain⟨F',he,hfr,hF⟩:=h;exact⟨F',he.pure hb,hfr.trans (Fr.pure hb),hF⟩
theorem wv.disk {w W W1 w':World}{F:Nat→Prop}{g p b:Nat}{st st':cZ}{l:kR}(h:wv w F g p b (st,l) W)(hb:Below W.heap.size W W1)(hd:db w' p b st')(hf:dY p b W1 w'):wv w F g p b (st',l) w':=by
 obtain⟨F',he,hfr,hF⟩:=h;exact⟨F',(he.pure hb).disk hd hf,(hfr.trans (Fr.pure hb)).trans (hf.mono λ_ _ e=>.inr e),hF⟩
theorem wF (w:World)(F:Nat→Prop)(g p b:Nat)(st:cZ)(l:kR)(h:wn w F g p b st l)(i:Nat)(hi:i<l.segs.length)(hix:l.ix.length≤64) :
  Calls prog 75 #[.pointer (some ⟨g,0,none⟩),.int .i64 (i:Int)] w λe w'=>e = .returned (.int .i64 (lh i (st,l)).2)∧wv w F g p b (lh i (st,l)).1 w':=by
 obtain⟨sv,iv,xs,S,hc,hSF,hSV,_⟩:=id h.lg;obtain⟨a0,c0,rfl⟩:=hc.segs.shape;obtain⟨g0,_,g2,_,g4,g5,g6⟩:=hc.cs;obtain⟨sb,so,hso,k1,k2,hsbl⟩:=hc.segs.at i hi;cases hso;have hgl:=hc.gl;have hfew:=(gm h.may).2.2.2.1;obtain⟨G,FF,hGF,hG1,hG2⟩:=lP h.may i hi;have H:=hid h;have HC:=hid hc;have HSF:=hid hSF;have HSV:=hid hSV;have hgd:l.segs.getD i (0,0)=l.segs[i]:=by rw[List.getD_eq_getElem?_getD,List.getElem?_eq_getElem hi];rfl
 have HGD:=hid hgd;have HNL:=hid (show(gu l.segs[i]).length=20 from by rw[hGF];exact kA G FF hG1 hG2);clear h hc hSF hSV hgd hGF hG1 hG2
 go_enter func75,ntmps75
 go_wp2_with fail
 obtain⟨w1,hw1⟩:∃w1,w1=w.alloc (.cells #[.int .i64 l.segs[i].1,.int .i64 l.segs[i].2] 48):=⟨_,rfl⟩;obtain⟨eb,heb⟩:∃eb,eb=w.heap.size:=⟨_,rfl⟩;rw[← hw1,← heb];have hb1:Below w.heap.size w w1:=by rw[hw1];exact(Below.refl _ _).alloc (Nat.le_refl _) _
 have he1:w1.heap[eb]?=some (.cells #[.int .i64 l.segs[i].1,.int .i64 l.segs[i].2] 48 (0,0)):=by rw[hw1,heb];exact heap_alloc_new _ _
 have HB1:=hid hb1;have HEB:=hid heb;have HE1:=hid he1;clear hw1 heb hb1;refine(cf w1 (bS HB1.out H.out.libs.pow) l.segs[i].1 l.segs[i].2).mono ?_;rintro e w2 ⟨⟨nm,hnm,rfl⟩,hb2⟩;have hB2:=HB1.out.trans (hb2.mono HB1.out.size);have hns:nm.size=20:=by rw[ao hnm];exact HNL.out
 have HNM:Hid (nm.data.toList=gu l.segs[i]):=hid hnm;have q0:=(hB2.cell (p:=⟨g,0,none⟩) hgl).trans g0;have HE2:=hid ((hb2.block eb (lt_of_block HE1.out)).trans HE1.out);have HB2:=hid hB2;clear hb2 hnm hB2
 go_wp2_with fail
 refine(eK w2 p b st (H.out.dk.pure HB2.out) nm (by unfold maxLen;omega)).mono ?_;rw[HNM.out];rintro e w3 ⟨⟨s,hs,rfl⟩,hb3⟩;have HB3:=hid (HB2.out.trans (hb3.mono HB2.out.size));have HE3:=hid ((hb3.block eb (lt_of_block HE2.out)).trans HE2.out);have HSS:=hid hs;have hsz:s.size≤1048576:=by rw[ao hs];exact mA H.out.dk.ok _
 have hcode:=wz st (gu l.segs[i]);clear hb3 hs q0
 rcases hcode with hcode|hcode|hcode
 ·have ho:lh i (st,l)=((st,l),45):=by
   unfold lh;simp only[HGD.out,hcode];rw[if_neg (by decide),if_pos (by decide)]
  have HO:=hid ho;rw[hcode];clear ho;go_wp2;go_ret;exact⟨by rw[HO.out];rfl,by rw[HO.out];exact H.out.stay HB3.out⟩
 ·have ho:lh i (st,l)=((st,l),4):=by
   unfold lh;simp only[HGD.out,hcode,if_true]
  have HO:=hid ho;rw[hcode];clear ho;go_wp2;go_ret;exact⟨by rw[HO.out];rfl,by rw[HO.out];exact H.out.stay HB3.out⟩
 ·rw[hcode]
  obtain⟨ev,hev1,hev2,hev3,hev4⟩:=tG H.out.cfg;have q2:=(HB3.out.cell (p:=⟨g,2,none⟩) hgl).trans g2;rw[← hev1]at q2;have HEV:=hid (And.intro hev1 hev4);clear hev1 hev4
  go_wp2_with fail
  refine(pM s ev w3 hsz hev2 hev3).mono ?_;rintro e w4 ⟨hb4,hbuild⟩;have HB4:=hid (HB3.out.trans (hb4.mono HB3.out.size));have HB34:=hid hb4;have HE4:=hid ((hb4.block eb (lt_of_block HE3.out)).trans HE3.out);have b1:w4.cell? ⟨eb,1,none⟩=some (.int .i64 l.segs[i].2):=(cell_of_row _ _ _ _ _ _ HE4.out).trans rfl
  rcases hbuild with⟨hne,rfl⟩|⟨hz,x,xv,hx,hxv,hix4,rfl⟩
  ·have ho:lh i (st,l)=((st,l),4):=by
    unfold lh;simp only[HGD.out,hcode];rw[if_neg (by decide),if_neg (by decide),if_pos (.inl (by rw[← HSS.out];exact hne))]
   have HO:=hid ho;have hcb:((kQ s.data.toList).1 == 0)=false:=by simpa using hne
   have hcb2:((kQ s.data.toList).1 != 0)=true:=by simpa using hne
   have hcb3:decide ((kQ s.data.toList).1=0)=false:=by simpa using hne
   clear ho hb4 hcode
   go_wp2_with fail
   go_quiet (fail)
   go_wp2;go_ret;exact⟨by rw[HO.out];rfl,by rw[HO.out];exact H.out.stay (HB4.out.trans ((wy w4 _).mono HB4.out.size))⟩
  ·have HX:=hid (And.intro hx hxv)
   have HIX:=hid hix4;clear hx hxv hix4 hb4
   go_wp2_with fail
   refine wp_region_held_drew (S:=(λw'=>w'.cell? ⟨eb,1,none⟩=some (.int .i64 l.segs[i].2)∧Below w4.heap.size w4 w')) (by kernel_rfl) ⟨b1,(Below.refl _ _).drew⟩ (λhHeld=>?_);refine wpAnyH_take (i:=0) (oi:=_) (v:=?_) (by simp only[List.getElem?_toArray,List.getElem?_cons_zero];rfl) (by kernel_rfl) (by kernel_rfl) (by kernel_rfl) (by exact λ_ _ _ h=>h) (Or.inl ⟨by rfl,?_⟩) (by assumption) ?_;rotate_left
   ·(intro w hSw;(try dsimp only at hSw);go_simp;try with_reducible rfl)
   simp only[Act.put,List.setIfInBounds_toArray,List.set_cons_zero,List.set_cons_succ];refine wpAnyH_take (i:=1) (oi:=_) (v:=?_) (by simp only[List.getElem?_toArray,List.getElem?_cons_succ,List.getElem?_cons_zero];rfl) (by kernel_rfl) (by kernel_rfl) (by kernel_rfl) (by exact λ_ _ _ h=>h) (Or.inl ⟨by rfl,?_⟩) (by assumption) ?_;rotate_left
   ·(intro w hSw;(try dsimp only at hSw);go_simp;try with_reducible rfl)
   simp only[Act.put,List.setIfInBounds_toArray,List.set_cons_zero,List.set_cons_succ];refine wpAnyH_take (i:=2) (oi:=_) (v:=?_) (by simp only[List.getElem?_toArray,List.getElem?_cons_succ,List.getElem?_cons_zero];rfl) (by kernel_rfl) (by kernel_rfl) (by kernel_rfl) (by exact λ_ _ _ h=>h) (Or.inl ⟨by rfl,?_⟩) (by assumption) ?_;rotate_left
   ·(intro w hSw;(try dsimp only at hSw);go_simp;try with_reducible rfl)
   simp only[Act.put,List.setIfInBounds_toArray,List.set_cons_zero,List.set_cons_succ];refine wpAnyH_take (i:=3) (oi:=_) (v:=?_) (by simp only[List.getElem?_toArray,List.getElem?_cons_succ,List.getElem?_cons_zero];rfl) (by kernel_rfl) (by kernel_rfl) (by kernel_rfl) (by exact λ_ _ _ h=>h) (Or.inl ⟨by rfl,?_⟩) (by assumption) ?_;rotate_left
   ·(intro w hSw;(try dsimp only at hSw);go_simp;try with_reducible rfl)
   simp only[Act.put,List.setIfInBounds_toArray,List.set_cons_zero,List.set_cons_succ];refine wpAnyH_take (i:=5) (oi:=_) (v:=?_) (by simp only[List.getElem?_toArray,List.getElem?_cons_succ,List.getElem?_cons_zero];rfl) (by kernel_rfl) (by kernel_rfl) (by kernel_rfl) (by exact λ_ _ _ h=>h) (Or.inl ⟨by rfl,?_⟩) (by assumption) ?_;rotate_left
   ·(intro w hSw;(try dsimp only at hSw);go_simp;try with_reducible rfl)
   simp only[Act.put,List.setIfInBounds_toArray,List.set_cons_zero,List.set_cons_succ];refine wpAnyH_take (i:=6) (oi:=_) (v:=?_) (by simp only[List.getElem?_toArray,List.getElem?_cons_succ,List.getElem?_cons_zero];rfl) (by kernel_rfl) (by kernel_rfl) (by kernel_rfl) (by exact λ_ _ _ h=>h) (Or.inl ⟨by rfl,?_⟩) (by assumption) ?_;rotate_left
   ·(intro w hSw;(try dsimp only at hSw);go_simp;try with_reducible rfl)
   simp only[Act.put,List.setIfInBounds_toArray,List.set_cons_zero,List.set_cons_succ];refine wpAnyH_ready (rs:=[4]) (by kernel_rfl) (by simp) ?_;refine AllReadyH.cons (o:=_) (by simp only[List.getElem?_toArray,List.getElem?_cons_succ,List.getElem?_cons_zero];rfl) (λK hK=>?_) AllReadyH.nil
   go_simp
   refine(oT _ x ev _ _ _ _ _ (HIX.out.pure hHeld.2)).mono ?_;rintro e w5 ⟨rfl,rfl⟩;have xS:=hHeld;clear hHeld;refine hK.out _ _ xS (λhHeld=>?_);clear hK K;refine wpAnyH_take (i:=7) (oi:=_) (v:=?_) (by simp only[List.getElem?_toArray,List.getElem?_cons_succ,List.getElem?_cons_zero];rfl) (by kernel_rfl) (by kernel_rfl) (by kernel_rfl) (by exact λ_ _ _ h=>h) (Or.inl ⟨by rfl,?_⟩) (by assumption) ?_;rotate_left
   ·(intro w hSw;(try dsimp only at hSw);go_simp;try with_reducible rfl)
   simp only[Act.put,List.setIfInBounds_toArray,List.set_cons_zero,List.set_cons_succ];refine wpAnyH_take (i:=8) (oi:=_) (v:=?_) (by simp only[List.getElem?_toArray,List.getElem?_cons_succ,List.getElem?_cons_zero];rfl) (by kernel_rfl) (by kernel_rfl) (by kernel_rfl) (by exact λ_ _ _ h=>h) (Or.inl ⟨by rfl,?_⟩) (by assumption) ?_;rotate_left
   ·(intro w hSw;(try dsimp only at hSw);go_simp;try with_reducible rfl)
   simp only[Act.put,List.setIfInBounds_toArray,List.set_cons_zero,List.set_cons_succ];refine wpAnyH_done (by kernel_rfl) ?_ _;have hb45:=hHeld.2;have hs45:=hb45.size;clear hHeld
   generalize w4.drew=W5 at hb45 hs45 ⊢
   have HB5:=hid (HB4.out.trans (hb45.mono HB4.out.size));have HB35:=hid (HB34.out.trans (hb45.mono HB34.out.size));have HIX5:=hid (HIX.out.pure hb45);clear hb45;by_cases hq:((kQ s.data.toList).2.1:Int)=l.segs[i].2;rotate_left
   ·have ho:lh i (st,l)=((st,l),4):=by
     unfold lh;simp only[HGD.out,hcode];rw[if_neg (by decide),if_neg (by decide),if_pos (.inr (by rw[← HSS.out];exact hq))]
    have HO:=hid ho;have hqb:(((kQ s.data.toList).2.1:Int) == l.segs[i].2)=false:=by simpa using hq
    have hqn:(((kQ s.data.toList).2.1:Int) != l.segs[i].2)=true:=by simpa using hq
    clear ho hcode;go_wp2;go_ret;exact⟨by rw[HO.out];rfl,by rw[HO.out];exact H.out.stay HB5.out⟩
   ·have hqb:(((kQ s.data.toList).2.1:Int) == l.segs[i].2)=true:=by simpa using hq
    have hqn:(((kQ s.data.toList).2.1:Int) != l.segs[i].2)=false:=by simpa using hq
    have q6:=(HB5.out.cell (p:=⟨g,6,none⟩) hgl).trans g6;have hcg:=(HB5.out.block g hgl).trans HC.out.cell;have z6:=frozen_of_row _ _ 6 _ _ hcg;have HCG:=hid hcg;have HROW:=hid (HC.out.pure HB5.out).row;obtain⟨i0,hi0,hz0,hz1,hz2⟩:=info_parts Tryz.infoIxQ;have HI:=hid hi0;have HZ0:=hid hz0;have HZ1:=hid hz1;have HZ2:=hid hz2;obtain⟨ia,inn,ic,hiv⟩:=aB HC.out.row;have HIV:=hid hiv;clear hcg hi0 hz0 hz1 hz2;subst hiv;have hxl:=HC.out.len;by_cases hL:i+1=l.segs.length
    ·have hLb:((i:Int) == (l.segs.length:Int)-1)=true:=by simp;omega
     go_wp2_with (first
      | (refine wpList_append_lies _ rfl _ _ 102 rfl 0 99 i0 _ 1 8 underlying102 HI.out HZ0.out HZ1.out HZ2.out rfl (by omega) _ l.ix.length (xs.map sW) rfl (World.ownsRow.alloc HROW.out _) ⟨W5.heap.size,0,none⟩ 1 1 [.pointer (some ⟨x,0,none⟩)] rfl rfl (aC rfl rfl) (by simp[Value.oneCell']) (by omega) (by unfold maxLen;omega) (by omega) (Nat.zero_le _) (W5.heap.size+1) (by simp) ?_;intro gg cap w8 hown8 hgrow8 hat8 hlt8
         have HOWN8:=hid hown8;have HGROW8:Hid (World.grownBy (W5.alloc (.cells #[.pointer (some ⟨x,0,none⟩)] 99)) w8 (Value.slice ia inn ic).ownBlock):=hid hgrow8;have HAT8:Hid ((Value.slice ia inn ic).ownBlock=some gg∨gg=W5.heap.size+1):=hid hat8;have HLT8:=hid hlt8;have hc8:=wD HC.out HCG.out HGROW8.out;clear hown8 hgrow8 hat8 hlt8;have p5:w8.cell? ⟨g,5,none⟩=some (.slice (some ⟨sb,so,none⟩) l.segs.length c0):=(cell_of_row _ _ _ _ _ _ hc8).trans rfl;have p6:w8.cell? ⟨g,6,none⟩=some (.slice ia inn ic):=(cell_of_row _ _ _ _ _ _ hc8).trans rfl;have z5:=frozen_of_row _ _ 5 _ _ hc8;have z6:=frozen_of_row _ _ 6 _ _ hc8;have HC8:=hid hc8;clear hc8))
     have hev:l.ev=ev:=HEV.out.2;have HIX8:=hid (wE (HC.out.pure HB3.out) HX.out.1 HX.out.2 HIX5.out HGROW8.out (.slice (some ⟨gg,0,none⟩) (l.ix.length+1) cap));have HOL:=hid (ww (X:=(kQ s.data.toList).2) H.out HB3.out (HC.out.pure HB3.out) HSF.out HSV.out HB35.out HX.out.1 HX.out.2 (by rw[hev];exact HIX5.out) (Below.alloc (Below.refl W5.heap.size W5) (Nat.le_refl _) _) (by simp) HOWN8.out HGROW8.out HAT8.out HLT8.out HC8.out);refine(oU _ x ev _ _ _ _ _ HIX8.out).mono ?_;rintro e w9 ⟨rfl,rfl⟩;by_cases hgd:(kQ s.data.toList).2.good<s.size
     ·have hgb:decide (((kQ s.data.toList).2.good:Int)<(s.size:Int))=true:=by simpa using hgd
      go_wp2_with fail
      obtain⟨F',hoe,hofr,hoF⟩:=id HOL.out;have HOE:=hid hoe;have q8:=hoe.g0;clear hoe hofr hoF;refine wp_region_held_drew (S:=(λw'=>w'.cell? ⟨g,0,none⟩=some (.pointer (some ⟨p,0,none⟩)))) (by kernel_rfl) (by exact q8) (λhHeld=>?_);refine wpAnyH_take (i:=0) (oi:=_) (v:=?_) (by simp only[List.getElem?_toArray,List.getElem?_cons_zero];rfl) (by kernel_rfl) (by kernel_rfl) (by kernel_rfl) (by exact λ_ _ _ h=>h) (Or.inl ⟨by rfl,?_⟩) (by assumption) ?_;rotate_left
      ·(intro w hSw;(try dsimp only at hSw);go_simp;try with_reducible rfl)
      simp only[Act.put,List.setIfInBounds_toArray,List.set_cons_zero,List.set_cons_succ];refine wpAnyH_take (i:=1) (oi:=_) (v:=?_) (by simp only[List.getElem?_toArray,List.getElem?_cons_succ,List.getElem?_cons_zero];rfl) (by kernel_rfl) (by kernel_rfl) (by kernel_rfl) (by exact λ_ _ _ h=>h) (Or.inl ⟨by rfl,?_⟩) (by assumption) ?_;rotate_left
      ·(intro w hSw;(try dsimp only at hSw);go_simp;try with_reducible rfl)
      simp only[Act.put,List.setIfInBounds_toArray,List.set_cons_zero,List.set_cons_succ];refine wpAnyH_take (i:=2) (oi:=_) (v:=?_) (by simp only[List.getElem?_toArray,List.getElem?_cons_succ,List.getElem?_cons_zero];rfl) (by kernel_rfl) (by kernel_rfl) (by kernel_rfl) (by exact λ_ _ _ h=>h) (Or.inl ⟨by rfl,?_⟩) (by assumption) ?_;rotate_left
      ·(intro w hSw;(try dsimp only at hSw);go_simp;try with_reducible rfl)
      simp only[Act.put,List.setIfInBounds_toArray,List.set_cons_zero,List.set_cons_succ];refine wpAnyH_take (i:=3) (oi:=_) (v:=?_) (by simp only[List.getElem?_toArray,List.getElem?_cons_succ,List.getElem?_cons_zero];rfl) (by kernel_rfl) (by kernel_rfl) (by kernel_rfl) (by exact λ_ _ _ h=>h) (Or.inl ⟨by rfl,?_⟩) (by assumption) ?_;rotate_left
      ·(intro w hSw;(try dsimp only at hSw);go_simp;try with_reducible rfl)
      simp only[Act.put,List.setIfInBounds_toArray,List.set_cons_zero,List.set_cons_succ];refine wpAnyH_take (i:=4) (oi:=_) (v:=?_) (by simp only[List.getElem?_toArray,List.getElem?_cons_succ,List.getElem?_cons_zero];rfl) (by kernel_rfl) (by kernel_rfl) (by kernel_rfl) (by exact λ_ _ _ h=>h) (Or.inl ⟨by rfl,?_⟩) (by assumption) ?_;rotate_left
      ·(intro w hSw;(try dsimp only at hSw);go_simp;try with_reducible rfl)
      simp only[Act.put,List.setIfInBounds_toArray,List.set_cons_zero,List.set_cons_succ];refine wpAnyH_take (i:=5) (oi:=_) (v:=?_) (by simp only[List.getElem?_toArray,List.getElem?_cons_succ,List.getElem?_cons_zero];rfl) (by kernel_rfl) (by kernel_rfl) (by kernel_rfl) (by exact λ_ _ _ h=>h) (Or.inl ⟨by rfl,?_⟩) (by assumption) ?_;rotate_left
      ·(intro w hSw;(try dsimp only at hSw);go_simp;try with_reducible rfl)
      simp only[Act.put,List.setIfInBounds_toArray,List.set_cons_zero,List.set_cons_succ];refine wpAnyH_ready (rs:=[6]) (by kernel_rfl) (by simp) ?_;refine AllReadyH.cons (o:=_) (by simp only[List.getElem?_toArray,List.getElem?_cons_succ,List.getElem?_cons_zero];rfl) (λK hK=>?_) AllReadyH.nil
      go_simp
      refine(oU _ x ev _ _ _ _ _ (HIX8.out.pure (Below.refl _ _).drew)).mono ?_;rintro e w9 ⟨rfl,rfl⟩;have xS:=hHeld;clear hHeld;refine hK.out _ _ xS (λhHeld=>?_);clear hK K;refine wpAnyH_ready (rs:=[7]) (by kernel_rfl) (by simp) ?_;refine AllReadyH.cons (o:=_) (by simp only[List.getElem?_toArray,List.getElem?_cons_succ,List.getElem?_cons_zero];rfl) (λK hK=>?_) AllReadyH.nil
      go_simp
      refine(sw _ p b st (HOE.out.dk.pure (Below.refl _ _).drew) nm _ (by unfold maxLen;omega)).mono ?_;rintro e w11 ⟨rfl,hd,hf⟩;have HD:=hid hd;have HF:=hid hf;have xS:=((HOE.out.pure (Below.refl _ _).drew).disk hd hf).g0;clear hHeld hd hf;refine hK.out _ _ xS (λhHeld=>?_);clear hK K;refine wpAnyH_take (i:=8) (oi:=_) (v:=?_) (by simp only[List.getElem?_toArray,List.getElem?_cons_succ,List.getElem?_cons_zero];rfl) (by kernel_rfl) (by kernel_rfl) (by kernel_rfl) (by exact λ_ _ _ h=>h) (Or.inl ⟨by rfl,?_⟩) (by assumption) ?_;rotate_left
      ·(intro w hSw;(try dsimp only at hSw);go_simp;try with_reducible rfl)
      simp only[Act.put,List.setIfInBounds_toArray,List.set_cons_zero,List.set_cons_succ];refine wpAnyH_done (by kernel_rfl) ?_ _;have ho:lh i (st,l)=(((lc st nm.data.toList (kQ s.data.toList).2.good).1,l.more (kQ s.data.toList).2),(lc st nm.data.toList (kQ s.data.toList).2.good).2):=by
       unfold lh;simp only[HGD.out,hcode];rw[if_neg (by decide),if_neg (by decide),if_neg (by rw[← HSS.out];simp[hz,hq]),if_pos hL,if_pos (by rw[← HSS.out,← ao rfl];exact hgd),← HSS.out,HNM.out];rfl
      have HO:=hid ho;clear ho hcode;go_wp2;go_ret;exact⟨by rw[HO.out];rfl,by rw[HO.out];exact HOL.out.disk (Below.refl _ _).drew HD.out HF.out⟩
     ·have hgb:decide (((kQ s.data.toList).2.good:Int)<(s.size:Int))=false:=by simpa using hgd
      have ho:lh i (st,l)=((st,l.more (kQ s.data.toList).2),0):=by
       unfold lh;simp only[HGD.out,hcode];rw[if_neg (by decide),if_neg (by decide),if_neg (by rw[← HSS.out];simp[hz,hq]),if_pos hL,if_neg (by rw[← HSS.out,← ao rfl];exact hgd),← HSS.out];rfl
      have HO:=hid ho;clear ho hcode;go_wp2;go_ret;exact⟨by rw[HO.out];rfl,by rw[HO.out];exact HOL.out⟩
    ·have hLb:((i:Int) == (l.segs.length:Int)-1)=false:=by simp;omega
     go_wp2_with (first
      | (refine wpList_append_lies _ rfl _ _ 102 rfl 0 99 i0 _ 1 8 underlying102 HI.out HZ0.out HZ1.out HZ2.out rfl (by omega) _ l.ix.length (xs.map sW) rfl (World.ownsRow.alloc HROW.out _) ⟨W5.heap.size,0,none⟩ 1 1 [.pointer (some ⟨x,0,none⟩)] rfl rfl (aC rfl rfl) (by simp[Value.oneCell']) (by omega) (by unfold maxLen;omega) (by omega) (Nat.zero_le _) (W5.heap.size+1) (by simp) ?_;intro gg cap w8 hown8 hgrow8 hat8 hlt8
         have HOWN8:=hid hown8;have HGROW8:Hid (World.grownBy (W5.alloc (.cells #[.pointer (some ⟨x,0,none⟩)] 99)) w8 (Value.slice ia inn ic).ownBlock):=hid hgrow8;have HAT8:Hid ((Value.slice ia inn ic).ownBlock=some gg∨gg=W5.heap.size+1):=hid hat8;have HLT8:=hid hlt8;have hc8:=wD HC.out HCG.out HGROW8.out;clear hown8 hgrow8 hat8 hlt8;have p5:w8.cell? ⟨g,5,none⟩=some (.slice (some ⟨sb,so,none⟩) l.segs.length c0):=(cell_of_row _ _ _ _ _ _ hc8).trans rfl;have p6:w8.cell? ⟨g,6,none⟩=some (.slice ia inn ic):=(cell_of_row _ _ _ _ _ _ hc8).trans rfl;have z5:=frozen_of_row _ _ 5 _ _ hc8;have z6:=frozen_of_row _ _ 6 _ _ hc8;have HC8:=hid hc8;clear hc8))
     have hev:l.ev=ev:=HEV.out.2;have HIX8:=hid (wE (HC.out.pure HB3.out) HX.out.1 HX.out.2 HIX5.out HGROW8.out (.slice (some ⟨gg,0,none⟩) (l.ix.length+1) cap));have HOL:=hid (ww (X:=(kQ s.data.toList).2) H.out HB3.out (HC.out.pure HB3.out) HSF.out HSV.out HB35.out HX.out.1 HX.out.2 (by rw[hev];exact HIX5.out) (Below.alloc (Below.refl W5.heap.size W5) (Nat.le_refl _) _) (by simp) HOWN8.out HGROW8.out HAT8.out HLT8.out HC8.out);refine(oU _ x ev _ _ _ _ _ HIX8.out).mono ?_;rintro e w9 ⟨rfl,rfl⟩;by_cases hgd:(kQ s.data.toList).2.good<s.size
     ·have hgb:decide (((kQ s.data.toList).2.good:Int)<(s.size:Int))=true:=by simpa using hgd
      have ho:lh i (st,l)=((st,l.more (kQ s.data.toList).2),42):=by
       unfold lh;simp only[HGD.out,hcode];rw[if_neg (by decide),if_neg (by decide),if_neg (by rw[← HSS.out];simp[hz,hq]),if_neg hL,if_pos (by rw[← HSS.out,← ao rfl];exact hgd),← HSS.out];rfl
      have HO:=hid ho;clear ho hcode;go_wp2;go_ret;exact⟨by rw[HO.out];rfl,by rw[HO.out];exact HOL.out⟩
     ·have hgb:decide (((kQ s.data.toList).2.good:Int)<(s.size:Int))=false:=by simpa using hgd
      go_wp2_with fail
      obtain⟨F',hoe,hofr,hoF⟩:=id HOL.out;have hi1:i+1<l.segs.length:=by omega
      obtain⟨sv9,iv9,xs9,S9,hc9,_⟩:=id hoe.lg;obtain⟨a9,c9,rfl⟩:=hc9.segs.shape;obtain⟨_,_,_,_,_,q5,_⟩:=hc9.cs;obtain⟨sb9,so9,hso9,_,q7,_⟩:=hc9.segs.at (i+1) hi1;cases hso9;clear hoe hofr hoF hc9;change World.cell? _ ⟨g,5,none⟩=some (.slice (some ⟨sb9,so9,none⟩) l.segs.length c9)at q5;change World.cell? _ ⟨sb9,so9+(i+1)*2+1,none⟩=some (.int .i64 l.segs[i+1].2)at q7;have hgd1:l.segs.getD (i+1) (0,0)=l.segs[i+1]:=by rw[List.getD_eq_getElem?_getD,List.getElem?_eq_getElem hi1];rfl
      have HGD1:=hid hgd1;clear hgd1;have hiW:IntKind.i64.wrap ((i:Int)+1)=(i:Int)+1:=IntWalk.i64_in _ (by omega);have hiA:((i:Int)+1).toNat=i+1:=by omega
      have hiB:(i:Int)+1<(l.segs.length:Int):=by omega
      have hiC:(0:Int)≤(i:Int)+1:=by omega
      refine wp_region_held_drew (S:=(λw'=>w'.cell? ⟨g,5,none⟩=some (.slice (some ⟨sb9,so9,none⟩) l.segs.length c9)∧w'.cell? ⟨sb9,so9+(i+1)*2+1,none⟩=some (.int .i64 l.segs[i+1].2))) (by kernel_rfl) ⟨q5,q7⟩ (λhHeld=>?_);refine wpAnyH_take (i:=0) (oi:=_) (v:=?_) (by simp only[List.getElem?_toArray,List.getElem?_cons_zero];rfl) (by kernel_rfl) (by kernel_rfl) (by kernel_rfl) (by exact λ_ _ _ h=>h) (Or.inl ⟨by rfl,?_⟩) (by assumption) ?_;rotate_left
      ·(intro w hSw;(try dsimp only at hSw);go_simp;try with_reducible rfl)
      simp only[Act.put,List.setIfInBounds_toArray,List.set_cons_zero,List.set_cons_succ];refine wpAnyH_take (i:=2) (oi:=_) (v:=?_) (by simp only[List.getElem?_toArray,List.getElem?_cons_succ,List.getElem?_cons_zero];rfl) (by kernel_rfl) (by kernel_rfl) (by kernel_rfl) (by exact λ_ _ _ h=>h) (Or.inl ⟨by rfl,?_⟩) (by assumption) ?_;rotate_left
      ·(intro w hSw;(try dsimp only at hSw);go_simp;try with_reducible rfl)
      simp only[Act.put,List.setIfInBounds_toArray,List.set_cons_zero,List.set_cons_succ];refine wpAnyH_take (i:=3) (oi:=_) (v:=?_) (by simp only[List.getElem?_toArray,List.getElem?_cons_succ,List.getElem?_cons_zero];rfl) (by kernel_rfl) (by kernel_rfl) (by kernel_rfl) (by exact λ_ _ _ h=>h) (Or.inl ⟨by rfl,?_⟩) (by assumption) ?_;rotate_left
      ·(intro w hSw;(try dsimp only at hSw);go_simp;try with_reducible rfl)
      simp only[Act.put,List.setIfInBounds_toArray,List.set_cons_zero,List.set_cons_succ];refine wpAnyH_take (i:=4) (oi:=_) (v:=?_) (by simp only[List.getElem?_toArray,List.getElem?_cons_succ,List.getElem?_cons_zero];rfl) (by kernel_rfl) (by kernel_rfl) (by kernel_rfl) (by exact λ_ _ _ h=>h) (Or.inl ⟨by rfl,?_⟩) (by assumption) ?_;rotate_left
      ·(intro w hSw;(try dsimp only at hSw);go_simp;try with_reducible rfl)
      simp only[Act.put,List.setIfInBounds_toArray,List.set_cons_zero,List.set_cons_succ];refine wpAnyH_take (i:=5) (oi:=_) (v:=?_) (by simp only[List.getElem?_toArray,List.getElem?_cons_succ,List.getElem?_cons_zero];rfl) (by kernel_rfl) (by kernel_rfl) (by kernel_rfl) (by exact λ_ _ _ h=>h) (Or.inl ⟨by rfl,?_⟩) (by assumption) ?_;rotate_left
      ·(intro w hSw;(try dsimp only at hSw);go_simp;try with_reducible rfl)
      simp only[Act.put,List.setIfInBounds_toArray,List.set_cons_zero,List.set_cons_succ];refine wpAnyH_take (i:=6) (oi:=_) (v:=?_) (by simp only[List.getElem?_toArray,List.getElem?_cons_succ,List.getElem?_cons_zero];rfl) (by kernel_rfl) (by kernel_rfl) (by kernel_rfl) (by exact λ_ _ _ h=>h) (Or.inl ⟨by rfl,?_⟩) (by assumption) ?_;rotate_left
      ·(intro w hSw;(try dsimp only at hSw);go_simp;try with_reducible rfl)
      simp only[Act.put,List.setIfInBounds_toArray,List.set_cons_zero,List.set_cons_succ];refine wpAnyH_take (i:=7) (oi:=_) (v:=?_) (by simp only[List.getElem?_toArray,List.getElem?_cons_succ,List.getElem?_cons_zero];rfl) (by kernel_rfl) (by kernel_rfl) (by kernel_rfl) (by exact λ_ _ _ h=>h) (Or.inl ⟨by rfl,?_⟩) (by assumption) ?_;rotate_left
      ·(intro w hSw;(try dsimp only at hSw);go_simp;try with_reducible rfl)
      simp only[Act.put,List.setIfInBounds_toArray,List.set_cons_zero,List.set_cons_succ];refine wpAnyH_take (i:=8) (oi:=_) (v:=?_) (by simp only[List.getElem?_toArray,List.getElem?_cons_succ,List.getElem?_cons_zero];rfl) (by kernel_rfl) (by kernel_rfl) (by kernel_rfl) (by exact λ_ _ _ h=>h) (Or.inl ⟨by rfl,?_⟩) (by assumption) ?_;rotate_left
      ·(intro w hSw;(try dsimp only at hSw);go_simp;try with_reducible rfl)
      simp only[Act.put,List.setIfInBounds_toArray,List.set_cons_zero,List.set_cons_succ];refine wpAnyH_take (i:=9) (oi:=_) (v:=?_) (by simp only[List.getElem?_toArray,List.getElem?_cons_succ,List.getElem?_cons_zero];rfl) (by kernel_rfl) (by kernel_rfl) (by kernel_rfl) (by exact λ_ _ _ h=>h) (Or.inl ⟨by rfl,?_⟩) (by assumption) ?_;rotate_left
      ·(intro w hSw;(try dsimp only at hSw);go_simp;try with_reducible rfl)
      simp only[Act.put,List.setIfInBounds_toArray,List.set_cons_zero,List.set_cons_succ];refine wpAnyH_take (i:=10) (oi:=_) (v:=?_) (by simp only[List.getElem?_toArray,List.getElem?_cons_succ,List.getElem?_cons_zero];rfl) (by kernel_rfl) (by kernel_rfl) (by kernel_rfl) (by exact λ_ _ _ h=>h) (Or.inl ⟨by rfl,?_⟩) (by assumption) ?_;rotate_left
      ·(intro w hSw;(try dsimp only at hSw);go_simp;try with_reducible rfl)
      simp only[Act.put,List.setIfInBounds_toArray,List.set_cons_zero,List.set_cons_succ];refine wpAnyH_take (i:=11) (oi:=_) (v:=?_) (by simp only[List.getElem?_toArray,List.getElem?_cons_succ,List.getElem?_cons_zero];rfl) (by kernel_rfl) (by kernel_rfl) (by kernel_rfl) (by exact λ_ _ _ h=>h) (Or.inl ⟨by rfl,?_⟩) (by assumption) ?_;rotate_left
      ·(intro w hSw;(try dsimp only at hSw);go_simp;try with_reducible rfl)
      simp only[Act.put,List.setIfInBounds_toArray,List.set_cons_zero,List.set_cons_succ];refine wpAnyH_ready (rs:=[1]) (by kernel_rfl) (by simp) ?_;refine AllReadyH.cons (o:=_) (by simp only[List.getElem?_toArray,List.getElem?_cons_succ,List.getElem?_cons_zero];rfl) (λK hK=>?_) AllReadyH.nil
      go_simp
      refine(oS _ x ev _ _ _ _ _ (HIX8.out.pure (Below.refl _ _).drew)).mono ?_;rintro e w9 ⟨rfl,rfl⟩;have xS:=hHeld;clear hHeld;refine hK.out _ _ xS (λhHeld=>?_);clear hK K;refine wpAnyH_take (i:=12) (oi:=_) (v:=?_) (by simp only[List.getElem?_toArray,List.getElem?_cons_succ,List.getElem?_cons_zero];rfl) (by kernel_rfl) (by kernel_rfl) (by kernel_rfl) (by exact λ_ _ _ h=>h) (Or.inl ⟨by rfl,?_⟩) (by assumption) ?_;rotate_left
      ·(intro w hSw;(try dsimp only at hSw);go_simp;try with_reducible rfl)
      simp only[Act.put,List.setIfInBounds_toArray,List.set_cons_zero,List.set_cons_succ];refine wpAnyH_take (i:=13) (oi:=_) (v:=?_) (by simp only[List.getElem?_toArray,List.getElem?_cons_succ,List.getElem?_cons_zero];rfl) (by kernel_rfl) (by kernel_rfl) (by kernel_rfl) (by exact λ_ _ _ h=>h) (Or.inl ⟨by rfl,?_⟩) (by assumption) ?_;rotate_left
      ·(intro w hSw;(try dsimp only at hSw);go_simp;try with_reducible rfl)
      simp only[Act.put,List.setIfInBounds_toArray,List.set_cons_zero,List.set_cons_succ];refine wpAnyH_done (by kernel_rfl) ?_ _;by_cases hn:((kQ s.data.toList).2.next:Int)=l.segs[i+1].2
      ·have hnb:(((kQ s.data.toList).2.next:Int) == l.segs[i+1].2)=true:=by simpa using hn
       have hnc:(((kQ s.data.toList).2.next:Int) != l.segs[i+1].2)=false:=by simpa using hn
       have ho:lh i (st,l)=((st,l.more (kQ s.data.toList).2),0):=by
        unfold lh;simp only[HGD.out,HGD1.out,hcode];rw[if_neg (by decide),if_neg (by decide),if_neg (by rw[← HSS.out];simp[hz,hq]),if_neg hL,if_neg (by rw[← HSS.out,← ao rfl];exact hgd),if_neg (by rw[← HSS.out];exact not_not_intro hn),← HSS.out];rfl
       have HO:=hid ho;clear ho hcode;go_wp2;go_ret;exact⟨by rw[HO.out];rfl,by rw[HO.out];exact HOL.out.pureB (Below.refl _ _).drew⟩
      ·have hnb:(((kQ s.data.toList).2.next:Int) == l.segs[i+1].2)=false:=by simpa using hn
       have hnc:(((kQ s.data.toList).2.next:Int) != l.segs[i+1].2)=true:=by simpa using hn
       have ho:lh i (st,l)=((st,l.more (kQ s.data.toList).2),4):=by
        unfold lh;simp only[HGD.out,HGD1.out,hcode];rw[if_neg (by decide),if_neg (by decide),if_neg (by rw[← HSS.out];simp[hz,hq]),if_neg hL,if_neg (by rw[← HSS.out,← ao rfl];exact hgd),if_pos (by rw[← HSS.out];exact hn),← HSS.out];rfl
       have HO:=hid ho;clear ho hcode;go_wp2;go_ret;exact⟨by rw[HO.out];rfl,by rw[HO.out];exact HOL.out.pureB (Below.refl _ _).drew⟩
def Ch (W:World)(b:Nat)(v0 v1 v2 v3 v4 v5 v6 v7 v8:Value):World:=(((((((((W.setCell ⟨b,0,none⟩ v0).setCell ⟨b,1,none⟩ v1).setCell ⟨b,2,none⟩ v2).setCell ⟨b,3,none⟩ v3).setCell ⟨b,4,none⟩ v4).setCell ⟨b,5,none⟩ v5).setCell ⟨b,6,none⟩ v6).setCell ⟨b,7,none⟩ v7).setCell ⟨b,8,none⟩ v8)
theorem Ci (W:World)(b:Nat)(v0 v1 v2 v3 v4 v5 v6 v7 v8:Value):Fr (λk=>k=b) W (Ch W b v0 v1 v2 v3 v4 v5 v6 v7 v8):=by
 have h:=Fr.refl (λk=>k=b) W;have h:=h.setCell ⟨b,0,none⟩ (λ_=>rfl) v0;have h:=h.setCell ⟨b,1,none⟩ (λ_=>rfl) v1;have h:=h.setCell ⟨b,2,none⟩ (λ_=>rfl) v2;have h:=h.setCell ⟨b,3,none⟩ (λ_=>rfl) v3;have h:=h.setCell ⟨b,4,none⟩ (λ_=>rfl) v4;have h:=h.setCell ⟨b,5,none⟩ (λ_=>rfl) v5;have h:=h.setCell ⟨b,6,none⟩ (λ_=>rfl) v6;have h:=h.setCell ⟨b,7,none⟩ (λ_=>rfl) v7;have h:=h.setCell ⟨b,8,none⟩ (λ_=>rfl) v8;exact h
theorem Cj {W:World}{b:Nat}{T:TypeId}{z0 z1 z2 z3 z4 z5 z6 z7 z8:Value}(v0 v1 v2 v3 v4 v5 v6 v7 v8:Value)(h:W.heap[b]?=some (.cells #[z0,z1,z2,z3,z4,z5,z6,z7,z8] T (0,0))):(Ch W b v0 v1 v2 v3 v4 v5 v6 v7 v8).heap[b]?=some (.cells #[v0,v1,v2,v3,v4,v5,v6,v7,v8] T (0,0)):=by
 have h:(W.setCell ⟨b,0,none⟩ v0).heap[b]?=some (.cells #[v0,z1,z2,z3,z4,z5,z6,z7,z8] T (0,0)):=heap_setCell_same _ _ _ _ _ _ h;have h:((W.setCell ⟨b,0,none⟩ v0).setCell ⟨b,1,none⟩ v1).heap[b]?=some (.cells #[v0,v1,z2,z3,z4,z5,z6,z7,z8] T (0,0)):=heap_setCell_same _ _ _ _ _ _ h;have h:(((W.setCell ⟨b,0,none⟩ v0).setCell ⟨b,1,none⟩ v1).setCell ⟨b,2,none⟩ v2).heap[b]?=some (.cells #[v0,v1,v2,z3,z4,z5,z6,z7,z8] T (0,0)):=heap_setCell_same _ _ _ _ _ _ h;have h:((((W.setCell ⟨b,0,none⟩ v0).setCell ⟨b,1,none⟩ v1).setCell ⟨b,2,none⟩ v2).setCell ⟨b,3,none⟩ v3).heap[b]?=some (.cells #[v0,v1,v2,v3,z4,z5,z6,z7,z8] T (0,0)):=heap_setCell_same _ _ _ _ _ _ h;have h:(((((W.setCell ⟨b,0,none⟩ v0).setCell ⟨b,1,none⟩ v1).setCell ⟨b,2,none⟩ v2).setCell ⟨b,3,none⟩ v3).setCell ⟨b,4,none⟩ v4).heap[b]?=some (.cells #[v0,v1,v2,v3,v4,z5,z6,z7,z8] T (0,0)):=heap_setCell_same _ _ _ _ _ _ h;have h:((((((W.setCell ⟨b,0,none⟩ v0).setCell ⟨b,1,none⟩ v1).setCell ⟨b,2,none⟩ v2).setCell ⟨b,3,none⟩ v3).setCell ⟨b,4,none⟩ v4).setCell ⟨b,5,none⟩ v5).heap[b]?=some (.cells #[v0,v1,v2,v3,v4,v5,z6,z7,z8] T (0,0)):=heap_setCell_same _ _ _ _ _ _ h;have h:(((((((W.setCell ⟨b,0,none⟩ v0).setCell ⟨b,1,none⟩ v1).setCell ⟨b,2,none⟩ v2).setCell ⟨b,3,none⟩ v3).setCell ⟨b,4,none⟩ v4).setCell ⟨b,5,none⟩ v5).setCell ⟨b,6,none⟩ v6).heap[b]?=some (.cells #[v0,v1,v2,v3,v4,v5,v6,z7,z8] T (0,0)):=heap_setCell_same _ _ _ _ _ _ h;have h:((((((((W.setCell ⟨b,0,none⟩ v0).setCell ⟨b,1,none⟩ v1).setCell ⟨b,2,none⟩ v2).setCell ⟨b,3,none⟩ v3).setCell ⟨b,4,none⟩ v4).setCell ⟨b,5,none⟩ v5).setCell ⟨b,6,none⟩ v6).setCell ⟨b,7,none⟩ v7).heap[b]?=some (.cells #[v0,v1,v2,v3,v4,v5,v6,v7,z8] T (0,0)):=heap_setCell_same _ _ _ _ _ _ h;have h:(((((((((W.setCell ⟨b,0,none⟩ v0).setCell ⟨b,1,none⟩ v1).setCell ⟨b,2,none⟩ v2).setCell ⟨b,3,none⟩ v3).setCell ⟨b,4,none⟩ v4).setCell ⟨b,5,none⟩ v5).setCell ⟨b,6,none⟩ v6).setCell ⟨b,7,none⟩ v7).setCell ⟨b,8,none⟩ v8).heap[b]?=some (.cells #[v0,v1,v2,v3,v4,v5,v6,v7,v8] T (0,0)):=heap_setCell_same _ _ _ _ _ _ h;exact h
def Ck (W:World)(b:Nat)(v0 v1 v2 v3:Value):World:=((((W.setCell ⟨b,0,none⟩ v0).setCell ⟨b,1,none⟩ v1).setCell ⟨b,2,none⟩ v2).setCell ⟨b,3,none⟩ v3)
theorem Cl (W:World)(b:Nat)(v0 v1 v2 v3:Value):Fr (λk=>k=b) W (Ck W b v0 v1 v2 v3):=by
 have h:=Fr.refl (λk=>k=b) W;have h:=h.setCell ⟨b,0,none⟩ (λ_=>rfl) v0;have h:=h.setCell ⟨b,1,none⟩ (λ_=>rfl) v1;have h:=h.setCell ⟨b,2,none⟩ (λ_=>rfl) v2;have h:=h.setCell ⟨b,3,none⟩ (λ_=>rfl) v3;exact h
theorem Cm {W:World}{b:Nat}{T:TypeId}{z0 z1 z2 z3:Value}(v0 v1 v2 v3:Value)(h:W.heap[b]?=some (.cells #[z0,z1,z2,z3] T (0,0))):(Ck W b v0 v1 v2 v3).heap[b]?=some (.cells #[v0,v1,v2,v3] T (0,0)):=by
 have h:(W.setCell ⟨b,0,none⟩ v0).heap[b]?=some (.cells #[v0,z1,z2,z3] T (0,0)):=heap_setCell_same _ _ _ _ _ _ h;have h:((W.setCell ⟨b,0,none⟩ v0).setCell ⟨b,1,none⟩ v1).heap[b]?=some (.cells #[v0,v1,z2,z3] T (0,0)):=heap_setCell_same _ _ _ _ _ _ h;have h:(((W.setCell ⟨b,0,none⟩ v0).setCell ⟨b,1,none⟩ v1).setCell ⟨b,2,none⟩ v2).heap[b]?=some (.cells #[v0,v1,v2,z3] T (0,0)):=heap_setCell_same _ _ _ _ _ _ h;have h:((((W.setCell ⟨b,0,none⟩ v0).setCell ⟨b,1,none⟩ v1).setCell ⟨b,2,none⟩ v2).setCell ⟨b,3,none⟩ v3).heap[b]?=some (.cells #[v0,v1,v2,v3] T (0,0)):=heap_setCell_same _ _ _ _ _ _ h;exact h
def yX {α:Type}(Q:α→World→Prop)(F:Fence)(n:Nat)(P:Program)(g:Nat)(lb:Array Value)(encs:α→Array Value)(own:Nat→Prop)(Kp Kx:World→World→Prop)(S Sp:List α→Prop)(N:Nat)(w:World):Prop:=
 ∀(l:Nat) (J Jx:List α→World→Prop) (W:World),Below w.heap.size w W→w.heap.size+1<W.heap.size→mZ own J→mZ own Jx →
  (∀pre x W1,Q x W1→J pre W1→pre.length<N→YieldAt F (n-1) P l (encs x) W1 λe W'=>(e = .returned (.bool true)∧J (pre++[x]) W'∧Kp W1 W')∨(e = .returned (.bool false)∧Jx (pre++[x]) W'∧Kx W1 W')) →
  J [] W →
  CallsIn F n P g (#[.func (.yield l) #[] #[]]++lb) W λe W'=>(∃v,e = .returned v)∧((∃xs,S xs∧J xs W')∨(∃pre,Sp pre∧Jx pre W'))
variable {F:Fence} {n:Nat} {P:Program}
theorem yY {α:Type}{g:Operand}{ps:Array Tmp}{assign body:Code}{Q:Exit→Act→World→Prop}{a:Act}{w:World}
  (hro:F.round=none) (h1:1≤n) {gf:Nat} {lb:Array Value} (hg:a.eval g = .func (.func gf) #[] lb) (hFg:F.fn gf) (eg:∀args w,(callFunc gf args).run P w = .ok (.enter gf args) w)
  {Qx:α→World→Prop} {encs:α→Array Value} {own:Nat→Prop} {Kp Kx:World→World→Prop} {S Sp:List α→Prop} {N:Nat} (hseq:yX Qx F (n-1) P gf lb encs own Kp Kx S Sp N w) (hown:¬own w.heap.size∧¬own (w.heap.size+1))
  (hKt:∀{A B C:World},Kp A B→Kp B C→Kp A C) (hKb:∀(W:World) (o:Obj),w.heap.size+1<W.heap.size→Kp W (W.putObj (w.heap.size+1) o)) (hKx:∀{A B C:World},Kp A B→Kx B C→Kx A C) (hKxb:∀(A W:World) (o:Obj),Kx A W→Kx A (W.putObj (w.heap.size+1) o)) (hps:∀x,(encs x).size=ps.size)
  (I:List α→World→Prop) (Ix:Code→List α→World→Prop) (hI:mZ (λk=>own k∨k=w.heap.size∨k=w.heap.size+1) I) (hIx:∀c,mZ (λk=>own k∨k=w.heap.size∨k=w.heap.size+1) (Ix c)) (h0:I [] w)
  (A:List α→α→Act→World→Prop) (hA:∀pre x a' W o,w.heap.size+1<W.heap.size→A pre x a' W→A pre x a' (W.putObj (w.heap.size+1) o))
  (hassign:∀(pre:List α) (x:α) (W:World) (K:Act→World→Prop),Qx x W→w.heap.size+1<W.heap.size→I pre W→(∀a' W',A pre x a' W'→m8 w.heap.size W W'→W.heap.size≤W'.heap.size→Kp W W'→K a' W') →
    assign.wpIn (F.inRound (w.heap.size+1)) (n-1-1) P (Exit.then K (λ_ _ _=>False)) { tmps:=(ps.zip (encs x)).foldl (λt (p,v)=>t.setIfInBounds p v) a.tmps,defers:=[] } W)
  (hbody:∀(pre:List α) (x:α) (a':Act) (W:World),w.heap.size+1<W.heap.size→A pre x a' W→pre.length<N→body.wpIn (F.inRound (w.heap.size+1)) (n-1-1) P (yV w.heap.size Kp Kx I Ix (pre++[x]) W) a' W)
  (hdone:∀(xs:List α) (W:World),S xs→I xs W→W.heap[w.heap.size]?=some (.deferred (some []))→Q .normal { a with defers:={ target:=.collected w.heap.size,args:=#[] }::a.defers } W)
  (hstop:∀(c:Code) (pre:List α) (W:World),Sp pre→Ix c pre W→W.heap[w.heap.size]?=some (.deferred (some []))→c.wpIn F n P Q { a with defers:={ target:=.collected w.heap.size,args:=#[] }::a.defers } W) :
  (Code.rangeFunc g ps assign body).wpIn F n P Q a w:=by
 refine wpIn_rangeFunc ?_;intro fn hfn;rw[hro];obtain⟨rec,hrec⟩:∃rec:LoopState→Option Code→Loop,rec=λst pe=>{ state:=st,pending:=pe,fn,tmps:=a.tmps,params:=ps,assign,body,defers:=w.heap.size }:=⟨_,rfl⟩;obtain⟨N0,hN0⟩:∃N0,N0=w.heap.size:=⟨_,rfl⟩;obtain⟨W1,hW1⟩:∃W1,(w.alloc (.deferred (some []))).alloc (.loop (rec .ready none))=W1:=⟨_,rfl⟩;have hL1:W1.heap[w.heap.size+1]?=some (.loop (rec .ready none)):=by
  rw[← hW1];have:=World.alloc_heap_new (w.alloc (.deferred (some []))) (.loop (rec .ready none));rwa [World.size_alloc]at this
 have hK1:W1.heap[w.heap.size]?=some (.deferred (some [])):=by
  rw[← hW1];exact(Below.heap_alloc _ _ _ (by simp)).trans (World.alloc_heap_new w _)
 have hf1:∀{S:Nat→Prop},Fr S w W1:=by intro S;rw[← hW1];exact((Fr.refl S w).alloc _).alloc _
 have hI1:I [] W1:=hI _ _ _ h0 hf1;have hb1:Below w.heap.size w W1:=by rw[← hW1];exact((Below.refl _ w).alloc (Nat.le_refl _) _).alloc (by simp) _
 have hturn:∀{β:Type} {J:β→World→Prop} (_:mZ (λk=>own k∨k=w.heap.size∨k=w.heap.size+1) J) (s:β) (W:World) (o:Obj),J s W→J s (W.putObj (w.heap.size+1) o):=
  λhJ s W o hs=>hJ s _ _ hs ((Fr.refl _ W).putObj _ (λ_=>.inr (.inr rfl)) o)
 have hkeep:∀{X Y:World} {k:Nat} {o:Obj},Fr own X Y→¬own k→X.heap[k]?=some o→Y.heap[k]?=some o:=
  λhf hk h=>(hf.block _ (lt_of_block h) hk).trans h
 refine⟨w.heap.size+1,[{ target:=.collected w.heap.size,args:=#[] }],W1,{ target:=.fn (.func gf) lb,args:=#[.func (.yield (w.heap.size+1)) #[] #[]] },W1,gf,
  #[.func (.yield (w.heap.size+1)) #[] #[]]++lb,W1,?_,?_,?_,?_,λ_=>h1,?_⟩
 ·rw[← hW1,hrec];exact run_enterLoop_outer _ _ _ _ _
 ·simp only[resolve,hg]
  simp[go_sem]
 ·intro f' hf';simp[Target.leads]at hf';subst hf';exact hFg
 ·simp[invoke,go_sem,eg]
 ·refine(hseq (w.heap.size+1) (λpre W=>I pre W∧W.heap[w.heap.size+1]?=some (.loop (rec .ready none))∧W.heap[w.heap.size]?=some (.deferred (some []))) (λpre W=>∃c,Ix c pre W∧W.heap[w.heap.size+1]?=some (.loop (rec .done (some c)))∧W.heap[w.heap.size]?=some (.deferred (some [])))
   W1 hb1 (lt_of_block hL1) (λs X Y hs hf=>⟨hI s X Y hs.1 (hf.mono (λ_ _ e=>.inl e)),hkeep hf hown.2 hs.2.1,hkeep hf hown.1 hs.2.2⟩) (λs X Y hs hf=>by
    obtain⟨c,hc,hl,hk⟩:=hs;exact⟨c,hIx c s X Y hc (hf.mono (λ_ _ e=>.inl e)),hkeep hf hown.2 hl,hkeep hf hown.1 hk⟩)
   ?_ ⟨hI1,hL1,hK1⟩).mono ?_
  ·rintro pre x W hqx ⟨hi,hl,hk⟩ hlen
   have hlt:w.heap.size+1<W.heap.size:=lt_of_block hl;have hy:=run_yield (P:=P) (args:=encs x) hl (by rw[hrec];exact hps x);rw[hrec]at hy;refine⟨fn,_,assign,body,hy,roundIn_of_wpIn hfn (hassign pre x W _ hqx hlt hi ?_)⟩;intro a' W2 hA2 hg2 hsz2 hkp2;have hl2:W2.heap[w.heap.size+1]?=some (.loop (rec .ready none)):=hg2.lo.trans hl;have hk2:W2.heap[w.heap.size]?=some (.deferred (some [])):=hg2.de.trans hk;have hlt2:w.heap.size+1<W2.heap.size:=by omega
   refine⟨_,run_beginRound hl2 (by rw[hrec]),?_⟩;have hl3:(W2.putObj (w.heap.size+1) (.loop { rec .ready none with state:=.busy })).heap[w.heap.size+1]?=some (.loop { rec .ready none with state:=.busy }):=World.putObj_heap_same hlt2;have hk3:(W2.putObj (w.heap.size+1) (.loop { rec .ready none with state:=.busy })).heap[w.heap.size]?=some (.deferred (some [])):=(World.putObj_heap_other (by omega)).trans hk2;have hkp3:Kp W (W2.putObj (w.heap.size+1) (.loop { rec .ready none with state:=.busy })):=hKt hkp2 (hKb _ _ hlt2);refine wpIn_mono (hbody pre x a' _ (by rw[World.putObj_size];exact hlt2) (hA _ _ _ _ _ hlt2 hA2) hlen) ?_;have fin:∀(jump:Option Code) (W4:World),m8 w.heap.size (W2.putObj (w.heap.size+1) (.loop { rec .ready none with state:=.busy })) W4 →
     (Instr.endRound (w.heap.size+1) jump).run P W4 = .ok (.bool jump.isNone) (W4.putObj (w.heap.size+1) (.loop (rec (if jump.isNone then .ready else .done) jump))) ∧
     w.heap.size+1<W4.heap.size ∧
     (W4.putObj (w.heap.size+1) (.loop (rec (if jump.isNone then .ready else .done) jump))).heap[w.heap.size+1]?=some (.loop (rec (if jump.isNone then .ready else .done) jump)) ∧
     (W4.putObj (w.heap.size+1) (.loop (rec (if jump.isNone then .ready else .done) jump))).heap[w.heap.size]?=some (.deferred (some [])):=λjump W4 hg4=>by
    have hl4:=hg4.lo.trans hl3;have hr:=run_endRound (P:=P) jump hl4;rw[hrec]at hr ⊢;exact⟨hr,lt_of_block hl4,World.putObj_heap_same (lt_of_block hl4),(World.putObj_heap_other (by omega)).trans (hg4.de.trans hk3)⟩
   rintro e a4 W4 hp;cases e with
   | normal=>
    obtain⟨hg4,hkp4,hi4⟩:=hp;obtain⟨hr,hlt4,hl5,hk5⟩:=fin none W4 hg4;exact⟨_,_,hr,.inl ⟨rfl,⟨hturn hI _ _ _ hi4,hl5,hk5⟩,hKt (hKt hkp3 hkp4) (hKb _ _ hlt4)⟩⟩
   | ret=>
    obtain⟨hg4,hkp4,hi4⟩:=hp;obtain⟨hr,hlt4,hl5,hk5⟩:=fin (some .ret) W4 hg4;exact⟨_,_,hr,.inr ⟨rfl,⟨.ret,hturn (hIx _) _ _ _ hi4,hl5,hk5⟩,hKxb _ _ _ (hKx hkp3 hkp4)⟩⟩
   | exit id=>
    obtain⟨hg4,hkp4,hi4⟩:=hp;obtain⟨hr,hlt4,hl5,hk5⟩:=fin (some (.exit id)) W4 hg4;exact⟨_,_,hr,.inr ⟨rfl,⟨.exit id,hturn (hIx _) _ _ _ hi4,hl5,hk5⟩,hKxb _ _ _ (hKx hkp3 hkp4)⟩⟩
   | goto t=>
    obtain⟨hg4,hkp4,hi4⟩:=hp;obtain⟨hr,hlt4,hl5,hk5⟩:=fin (some (.goto t)) W4 hg4;exact⟨_,_,hr,.inr ⟨rfl,⟨.goto t,hturn (hIx _) _ _ _ hi4,hl5,hk5⟩,hKxb _ _ _ (hKx hkp3 hkp4)⟩⟩
   | panic ch=>exact hp.elim
   | outgrown=>exact hp.elim
  ·rintro e W2 ⟨⟨v,rfl⟩,(⟨xs,hS,hi,hl,hk⟩|⟨pre,hSp,c,hi,hl,hk⟩)⟩
   ·exact⟨none,_,by have:=run_endLoop (P:=P) hl (by rw[hrec];simp);rw[hrec]at this;exact this,hdone xs _ hS (hturn hI _ _ _ hi) ((World.putObj_heap_other (by omega)).trans hk)⟩
   ·exact⟨some c,_,by have:=run_endLoop (P:=P) hl (by rw[hrec];simp);rw[hrec]at this;exact this,hstop c pre _ hSp (hturn (hIx c) _ _ _ hi) ((World.putObj_heap_other (by omega)).trans hk)⟩
end
end Go.Proofs.YthjjgcfdhkhelaaGreatDoor
