/- What seglog.segment leaves in memory. -/
import Derived.Test.YthjjgcfdhkhelaaGreatDoorQAx
set_option maxHeartbeats 4000000
set_option maxRecDepth 100000
open Go.Lib(hid)
open Go.Proofs.Tryz
namespace Go.Proofs.YthjjgcfdhkhelaaGreatDoor
section
open Go.RowKit Go.Shelf
structure wn (w:World) (F:Nat→Prop) (g p b:Nat) (st:cZ) (l:kR):Prop where
 lg:sX w F g p l
 dk:db w p b st
 libs:vN w
 may:bL l.gen l.segs=true
 cfg:kN l.cfg=true
 far:∀k,F k→k≠p∧k≠b∧¬vO k
 lb:¬vO p∧¬vO b
theorem wn.pure {w w':World}{F:Nat→Prop}{g p b:Nat}{st:cZ}{l:kR}(h:wn w F g p b st l)(hb:Below w.heap.size w w'):wn w' F g p b st l:=
 ⟨h.lg.pure hb,h.dk.pure hb,h.libs.pure hb,h.may,h.cfg,h.far,h.lb⟩
theorem wn.disk {w w':World}{F:Nat→Prop}{g p b:Nat}{st st':cZ}{l:kR}(h:wn w F g p b st l)(hd:db w' p b st')(hf:dY p b w w'):wn w' F g p b st' l:=
 ⟨h.lg.kept hf (λk hk e=>by rcases e with e|e;exact(h.far k hk).1 e;exact(h.far k hk).2.1 e),hd,h.libs.kept hf (λk hk hl=>by rcases hk with rfl|rfl;exact h.lb.1 hl;exact h.lb.2 hl),h.may,h.cfg,h.far,h.lb⟩
theorem wn.lt {w:World}{F:Nat→Prop}{g p b:Nat}{st:cZ}{l:kR}(h:wn w F g p b st l):∀k,F k→k<w.heap.size:=by
 obtain⟨_,_,_,_,_,_,_,h3⟩:=h.lg;exact h3
theorem wn.any {w w':World}{S F:Nat→Prop}{g p b:Nat}{st:cZ}{l:kR}(h:wn w F g p b st l)(hf:Fr S w w')(hs:∀k,S k→w.heap.size≤k):wn w' F g p b st l:=
 ⟨h.lg.kept hf (λk hk e=>by have:=hs k e;have:=h.lt k hk;omega),h.dk.kept hf (λe=>by have:=hs _ e;have:=h.dk.lt;omega) (λe=>by have:=hs _ e;have:=h.dk.own.lt;omega),h.libs.kept hf (λk hk hl=>by have:=hs k hk;have:=h.libs.lt k hl;omega),h.may,h.cfg,h.far,h.lb⟩
theorem wo (l:kR)(ns:List ByteArray):(wg (l.segs.map gu) ns).map (·.data.toList)=(ns.map (·.data.toList)).filter (la l):=by
 unfold wg
 induction ns with
 | nil=>rfl
 | cons s r ih=>
  have e:la l s.data.toList = !vV (l.segs.map gu) s.data.toList:=by
   unfold la vV;simp
  rw[List.map_cons,List.filter_cons,List.filter_cons,e];cases hs:vV (l.segs.map gu) s.data.toList
  ·simp only[Bool.not_false,if_true,List.map_cons,ih]
  ·simp only[Bool.not_true,Bool.false_eq_true,if_false,ih]
theorem wq {w:World}{base:Nat}{v:Value}{ns:List (List UInt8)}(h:rX w base v ns)(h0:0<ns.length) :
  ∃(nb c N:Nat) (f:Nat→Value),v = .slice (some ⟨nb,0,none⟩) ns.length c∧base≤nb∧w.rowIs nb 9 N f∧ns.length≤N∧ns.length≤c∧∀i (h:i<ns.length),f i = .string ⟨ns[i].toArray⟩:=by
 obtain⟨_,⟨_,hn⟩|⟨nb,c,cur,rfl,hb,hh,hc,_,hcs,hx⟩⟩:=h
 ·omega
 ·refine⟨nb,c,cur.size,λj=>cur[j]!,rfl,hb,?_,by omega,hc,λi hi=>?_⟩
  ·exact⟨cur,hh,rfl,λi hi=>by simp[hi]⟩
  ·have h9:(cur.toList.take (ns.length*1))[i]?=(ns.map encStr)[i]?:=by rw[hx]
   rw[List.getElem?_take_of_lt (by omega),List.getElem?_map,List.getElem?_eq_getElem hi]at h9;have h8:cur[i]?=some (encStr ns[i]):=by simpa using h9
   simp only[getElem!_def,h8]
theorem ws {S:Nat→Prop}{w w':World}(h:Fr (λk=>S k∨w.heap.size≤k) w w'):Fr S w w':=⟨h.os,h.tape,h.output,h.size,λk hk hs=>h.block k hk (λe=>by rcases e with e|e;exact hs e;omega)⟩
theorem wt {σ:Type}{fs:List (σ→σ×Int)}{k:Nat}(hk:k<fs.length)(s:σ):kT (fs.drop k) s=if (fs[k] s).2≠0 then fs[k] s else kT (fs.drop (k+1)) (fs[k] s).1:=by
 rw[List.drop_eq_getElem_cons hk];rfl
theorem wu (w:World)(F:Nat→Prop)(g p b:Nat)(st:cZ)(l:kR)(h:wn w F g p b st l)(h0:0<st.fs.length)(hne:∀f∈st.fs,1≤f.name.length) :
  Calls prog 73 #[.pointer (some ⟨g,0,none⟩)] w λe w'=>e = .returned (.int .i64 (ld (st,l)).2)∧db w' p b (ld (st,l)).1.1∧dY p b w w':=by
 obtain⟨sv,iv,xs,S,hc,hSF,_,_⟩:=id h.lg;have hgpb:=h.far g (hSF g hc.sg);obtain⟨hgp,hgb,_⟩:=hgpb;have hpw:=h.dk.lt;have hbw:=h.dk.own.lt;obtain⟨a0,c0,rfl⟩:=hc.segs.shape;obtain⟨g0,_,_,_,g4,g5,_⟩:=hc.cs;have hgl:=hc.gl;have HSEG:=hid hc.segs;have H:=hid h;have hfew:=h.dk.ok.fs.few;have HNM:=hid h.dk.ok.fs.names;have HNE:=hid hne;clear h hc hne;have hmf:∀(fn:Fn) (first cap:Array Value) (w:World),(Instr.makeFunc fn first cap).run prog w = .ok (.func fn first cap) w:=λ_ _ _ _=>rfl
 go_enter func73,ntmps73
 go_wp2_with fail
 refine(rY w p b st H.out.dk).mono ?_;rintro e w1 ⟨hb1,hl⟩;have HB1:=hid hb1;by_cases hd:st.dark=true
 ·rw[if_pos hd]at hl
  subst hl;have ho:ld (st,l)=((st,l),45):=by unfold ld;rw[if_pos hd]
  have HO:=hid ho;clear ho hb1;go_wp2;go_ret;exact⟨by rw[HO.out];rfl,by rw[HO.out];exact H.out.dk.pure HB1.out,Fr.pure HB1.out⟩
 ·rw[if_neg hd]at hl
  obtain⟨v,rfl,hown⟩:=hl;obtain⟨nb,c,N,f,rfl,hnb,hrow,hN,hcc,hf⟩:=wq hown (by simpa using h0);rw[List.length_map]at hN hcc ⊢;obtain⟨ns,hns⟩:∃ns:List ByteArray,ns=st.fs.map λf=>⟨f.name.toArray⟩:=⟨_,rfl⟩;have hnl:ns.length=st.fs.length:=by rw[hns,List.length_map]
  have hf:∀i (h:i<ns.length),f i = .string ns[i]:=λi h=>by
   subst hns;rw[hf i (by simpa using h)];simp
  have hnd:ns.map (·.data.toList)=st.fs.map (·.name):=by rw[hns,List.map_map];exact List.map_congr_left λf _=>jO f.name
  have hnz:∀s∈ns,1≤s.size∧s.size≤1048576:=λs hs=>by
   rw[hns]at hs;obtain⟨f,hf,rfl⟩:=List.mem_map.1 hs;have h1:=HNE.out f hf;have h2:=HNM.out f hf;have h3:(⟨f.name.toArray⟩:ByteArray).size=f.name.length:=ao (jO f.name);omega
  have HND:=hid hnd;have HNZ:=hid hnz;rw[← hnl]at hN hcc ⊢;have hnl64:ns.length≤64:=by omega
  clear hns hnd hnz hnl;have HR:=hid hrow;have HF:=hid hf;have k4:=(hb1.cell (p:=⟨g,4,none⟩) hgl).trans g4;have k5:=(hb1.cell (p:=⟨g,5,none⟩) hgl).trans g5;have k0:=(hb1.cell (p:=⟨g,0,none⟩) hgl).trans g0;have hs1:=hb1.size;clear hown hb1 hrow hf g0 g4 g5
  go_wp2_with fail
  refine(gw w1 (bS HB1.out H.out.libs.pow) l.gen _ l.segs (HSEG.out.pure HB1.out) H.out.may).mono ?_;rintro e w2 ⟨ov,rfl,hb2,hown2⟩;obtain⟨oa,on,oc,rfl⟩:=aB hown2;have HB2:=hid (HB1.out.trans (hb2.mono HB1.out.size));have HR2:=hid (HR.out.of_block (hb2.block nb HR.out.lt));have hs2:=hb2.size;have hnb1:=HR.out.lt;have k0:=(hb2.cell (p:=⟨g,0,none⟩) (Nat.lt_of_lt_of_le hgl hs1)).trans k0;have HO2:=hid hown2;clear hb2 hown2 k4 k5;obtain⟨w3,hw3⟩:∃w3,w3=w2.alloc (.cells #[.slice oa on oc] 70):=⟨_,rfl⟩;obtain⟨ob,hob⟩:∃ob,ob=w2.heap.size:=⟨_,rfl⟩;have hb3:Below w2.heap.size w2 w3:=by rw[hw3];exact(Below.refl _ _).alloc (Nat.le_refl _) _
  have hk3:w3.heap[ob]?=some (.cells #[.slice oa on oc] 70 (0,0)):=by rw[hw3,hob];exact heap_alloc_new _ _
  have hbx:w3.cell? ⟨ob,0,none⟩=some (.slice oa on oc):=(cell_of_row _ _ _ _ _ _ hk3).trans rfl;have HB3:=hid (HB2.out.trans (hb3.mono HB2.out.size));have HR3:=hid (HR2.out.of_block (hb3.block nb HR2.out.lt));have hlibs:=H.out.libs;have hovb:(Value.slice oa on oc).ownBlock≠some nb:=λe=>by have:=oC HO2.out e;omega
  have HS3:=hid (show vX w3 nb ob (w1.heap.size+1) (.slice oa on oc) (l.segs.map gu)from⟨hlibs.pure HB3.out,hbx,by unfold rX;rw[List.length_map];exact(Fr.pure (S:=λ_=>False) hb3).ownsRow HO2.out (λ_ _ e=>e),by rw[List.length_map];exact(gm H.out.may).2.2.2.1,by omega,hovb,λe=>by have:=hlibs.lt nb e;omega⟩);have HDEL:=hid (wm w3 nb ob (w1.heap.size+1) c N (.slice oa on oc) (l.segs.map gu) HS3.out ns f HR3.out HF.out hN hcc HNZ.out (by omega));have hs3:=hb3.size;clear hlibs hovb hk3 hbx
  go_wp2_with fail
  rw[← hw3,← hob];have k0:=(hb3.cell (p:=⟨g,0,none⟩) (Nat.lt_of_lt_of_le hgl (Nat.le_trans hs1 hs2))).trans k0;clear hw3 hob hb3;refine HDEL.out.mono ?_;rintro e w4 ⟨rfl,hf4,hcells⟩;have HFR4:=hid (show Fr (λk=>w.heap.size≤k) w w4 from(Fr.pure (S:=λk=>w.heap.size≤k) HB3.out).then hf4 (λk _ h=>by rw[h];exact hnb));have k0:=hf4.cellAt k0 (by omega);have HE4:=hid (H.out.any HFR4.out (λk h=>h));have HCL:=hid hcells;have hs4:=hf4.size;clear hcells hf4;obtain⟨K,hK⟩:∃K,K=wg (l.segs.map gu) ns:=⟨_,rfl⟩;obtain⟨D,hD⟩:∃D:List (cZ→cZ×Int),D=K.map λs st=>eh st s.data.toList:=⟨_,rfl⟩;have hKl:K.length≤ns.length:=by rw[hK];exact wi ns
  have hDl:D.length=K.length:=by rw[hD,List.length_map]
  have ho:ld (st,l)=(((kT D st).1,l),(kT D st).2):=by
   have e:D=((st.fs.map (·.name)).filter (la l)).map λn st=>eh st n:=by
    rw[← HND.out,← wo,← hK,hD,List.map_map];rfl
   unfold ld;rw[if_neg hd,← e]
  have HO:=hid ho;have HDL:=hid (And.intro hDl hD);have HKZ:=hid (show ∀s∈K,s.size≤1048576 from λs hs=>(HNZ.out s (by rw[hK]at hs;exact(List.mem_filter.1 hs).1)).2);rw[← hK];rw[← hK]at HCL;clear ho hD hDl hK HND HNZ;go_wp2
  go_loopw [30] (λi wr=>∃(k:Nat) (st':cZ),i = .int .i64 k∧k≤K.length∧Hid (wn wr F g p b st' l)∧Hid (Fr (λk=>(k=p∨k=b)∨w.heap.size≤k) w wr)∧Hid (∀i (h:i<K.length),wr.cell? ⟨nb,i,none⟩=some (.string K[i]))∧wr.cell? ⟨g,0,none⟩=some (.pointer (some ⟨p,0,none⟩))∧Hid (kT D st=kT (D.drop k) st')) (λi _=>K.length-(intOf i).toNat)
  case atStart=>exact⟨0,st,rfl,by omega,HE4,hid (HFR4.out.mono (λk _ h=>.inr h)),HCL,k0,hid rfl⟩
  case round=>
   obtain⟨k,st',rfl,hk,HE,HFR,HC,hg0,HRUN⟩:=hrel;by_cases hlt:k<K.length
   ·have hck:=HC.out k hlt
    have hz:=HKZ.out K[k] (List.getElem_mem hlt);have hdel:=eC wr p b st' HE.out.dk K[k] (by unfold maxLen;omega);have HDE:=hid hdel;have hrd:=wt (fs:=D) (k:=k) (by rw[HDL.out.1];exact hlt) st';rw[show D[k]'(by rw[HDL.out.1];exact hlt)=(λst=>eh st K[k].data.toList)from by
     have:=HDL.out.2;rw[List.getElem_of_eq this (by rw[HDL.out.1];exact hlt),List.getElem_map]]at hrd
    have HRD:=hid hrd;clear hdel hrd
    go_wp2_with fail
    refine HDE.out.mono ?_;rintro e w5 ⟨rfl,hd5,hf5⟩;have HF5:=hid (HFR.out.then hf5 (λk _ h=>.inl h));have HE5:=hid (HE.out.disk hd5 hf5);have HD5:=hid hd5;have hg5:=hf5.cellAt hg0 (λh=>by rcases h with h|h;exact hgp h;exact hgb h);have HC5:=hid (show ∀i (h:i<K.length),w5.cell? ⟨nb,i,none⟩=some (.string K[i])from λi h=>hf5.cellAt (HC.out i h) (by omega));clear hd5 hf5;cases hcz:(eh st' K[k].data.toList).2 == 0
    ·have hcn:(eh st' K[k].data.toList).2≠0:=by simpa using hcz
     have hfin:kT D st=eh st' K[k].data.toList:=by rw[HRUN.out,HRD.out,if_pos hcn]
     have HFIN:=hid hfin;have hcb:((eh st' K[k].data.toList).2 != 0)=true:=by simpa using hcn
     generalize hR:eh st' K[k].data.toList=R at *
     obtain⟨R1,R2⟩:=R;simp only at hcn hcb hcz HD5 ⊢;clear hfin hR;go_wp2;go_ret;exact⟨by rw[HO.out,HFIN.out];rfl,by rw[HO.out,HFIN.out];exact HD5.out,ws HF5.out⟩
    ·have hcn:(eh st' K[k].data.toList).2=0:=by simpa using hcz
     have hfin:kT D st=kT (D.drop (k+1)) (eh st' K[k].data.toList).1:=by rw[HRUN.out,HRD.out,if_neg (by rw[hcn];simp)]
     have HFIN:=hid hfin;rw[hcn];clear hfin hcz hcn;go_wp2;refine⟨⟨k+1,_,by go_num,by omega,HE5,HF5,HC5,hg5,HFIN⟩,?_⟩;simp[intOf];omega
   ·obtain rfl:k=K.length:=by omega
    have hfin:kT D st=(st',0):=by
     rw[HRUN.out,List.drop_eq_nil_of_le (by rw[HDL.out.1];exact Nat.le_refl _)];rfl
    have HFIN:=hid hfin;clear hfin;go_wp2;go_ret;exact⟨by rw[HO.out,HFIN.out];rfl,by rw[HO.out,HFIN.out];exact HE.out.dk,ws HFR.out⟩
end
section
open Go.RowKit
def wv (w:World)(F:Nat→Prop)(g p b:Nat)(s:cZ×kR)(w':World):Prop:=
 ∃F',wn w' F' g p b s.1 s.2∧Fr (λk=>F k∨k=p∨k=b) w w'∧∀k,F' k→F k∨w.heap.size≤k
theorem wn.stay {w w':World}{F:Nat→Prop}{g p b:Nat}{st:cZ}{l:kR}(h:wn w F g p b st l)(hb:Below w.heap.size w w'):wv w F g p b (st,l) w':=⟨F,h.pure hb,Fr.pure hb,λ_ hk=>.inl hk⟩
def kR.more (l:kR)(X:kP):kR:={ l with ix:=l.ix++[X] }
theorem ww {w w1 w2 W2 w3:World}{F S:Nat→Prop}{g p b:Nat}{st:cZ}{l:kR}{sv iv:Value}{xs:List (Nat×Value)}(H0:wn w F g p b st l)(HB1:Below w.heap.size w w1)
  (HC:LgC w1 S g p l sv iv xs) (HSF:∀k,S k→F k) (HSV:∀k,sv.ownBlock=some k→F k) {X:kP} {x:Nat} {xv:Value} (HB2:Below w1.heap.size w1 w2) (HX:w1.heap.size≤x) (HXV:∀b,xv.ownBlock=some b→w1.heap.size≤b)
  (HIX:oR w2 x l.ev X.1 (kP.next X) (kP.good X) xv (iV l.ev X.1 X.2)) (HW2:Below w2.heap.size w2 W2) (HW2s:W2.heap.size=w2.heap.size+1) {gg cap:Nat}
  (HO3:w3.ownsRow 0 99 1 (.slice (some ⟨gg,0,none⟩) (l.ix.length+1) cap) (l.ix.length+1) (xs.map sW++[.pointer (some ⟨x,0,none⟩)])) (HGR3:W2.grownBy w3 iv.ownBlock) (HAT3:iv.ownBlock=some gg∨gg=w2.heap.size+1) (hlt3:gg<w3.heap.size)
  (HG3:w3.heap[g]?=some (.cells #[.pointer (some ⟨p,0,none⟩),.int .i64 l.cfg.ss,.int .i64 l.cfg.ev,.int .u8 l.cfg.v,.int .i64 l.gen,sv,iv] 104 (0,0))) :
  wv w F g p b (st,l.more X) (w3.setCell ⟨g,6,none⟩ (.slice (some ⟨gg,0,none⟩) (l.ix.length+1) cap)):=by
 have hrbg:∀k,iv.ownBlock=some k→k≠g:=λk hk=>by
  obtain⟨cur,hcur⟩:=tJ HC.row hk;exact λe=>tI HC.cell hcur (by decide) e.symm
 have hgF:F g:=HSF g HC.sg;have hgw:=H0.lt g hgF;have hs1:=HB1.size;have hs2:=HB2.size;have hs3:=HGR3.size;have hpw:=H0.dk.lt;have hbw:=H0.dk.own.lt;have hxl:=HC.len;have hgg:gg<w.heap.size∧F gg∨w1.heap.size<gg:=by
  rcases HAT3 with h|h
  ·exact .inl ⟨H0.lt _ (HSF _ (HC.siv _ h)),HSF _ (HC.siv _ h)⟩
  ·exact .inr (by omega)
 have hggne:gg≠g:=by
  rcases HAT3 with h|h
  ·exact hrbg gg h
  ·omega
 have F2:Fr (λk=>iv.ownBlock=some k∨k=g) w2 (w3.setCell ⟨g,6,none⟩ (.slice (some ⟨gg,0,none⟩) (l.ix.length+1) cap)):=
  ((Fr.pure HW2).trans ((sU HGR3).mono λk _ e=>.inl e)).setCell ⟨g,6,none⟩ (λ_=>.inr rfl) _
 have F1:=(Fr.pure (S:=λk=>iv.ownBlock=some k∨k=g) HB2).trans F2;have hcell:(w3.setCell ⟨g,6,none⟩ (.slice (some ⟨gg,0,none⟩) (l.ix.length+1) cap)).heap[g]?=some (.cells #[.pointer (some ⟨p,0,none⟩),.int .i64 l.cfg.ss,.int .i64 l.cfg.ev,.int .u8 l.cfg.v,.int .i64 l.gen,sv,.slice (some ⟨gg,0,none⟩) (l.ix.length+1) cap] 104 (0,0)):=
  (heap_setCell_same _ g 6 _ _ _ HG3).trans rfl
 have hneg:(Value.slice (some ⟨gg,0,none⟩) (l.ix.length+1) cap).ownBlock≠some g:=λe=>hggne (Option.some.inj e);have hrow:=ownsRow_setCell_other (a:=⟨g,6,none⟩) HO3 hneg (.slice (some ⟨gg,0,none⟩) (l.ix.length+1) cap);have hsz:w3.heap.size≤(w3.setCell ⟨g,6,none⟩ (.slice (some ⟨gg,0,none⟩) (l.ix.length+1) cap)).heap.size:=by simp
 generalize w3.setCell ⟨g,6,none⟩ (.slice (some ⟨gg,0,none⟩) (l.ix.length+1) cap)=W at *
 have hsW:=F1.size;have hixl:=HIX.lt;have hxvl:=λk (h:xv.ownBlock=some k)=>sT HIX.own h;have hs2W:=F2.size;have FT:Fr (λk=>F k∨k=p∨k=b) w W:=((Fr.pure (S:=λk=>F k∨k=p∨k=b) HB1).trans (F1.mono λk _ h=>.inl (by rcases h with h|h;exact HSF _ (HC.siv _ h);rw[h];exact hgF)));have hnew:∀k,(F k∨k=x∨xv.ownBlock=some k∨k=gg)→F k∨w.heap.size≤k:=by
  rintro k (h|h|h|h)
  ·exact .inl h
  ·exact .inr (by omega)
  ·have:=HXV k h;exact .inr (by omega)
  ·rcases hgg with h2|h2
   ·rw[h];exact .inl h2.2
   ·exact .inr (by omega)
 have hltW:∀k,(F k∨k=x∨xv.ownBlock=some k∨k=gg)→k<W.heap.size:=by
  rintro k (h|h|h|h)
  ·have:=H0.lt k h;omega
  ·omega
  ·have:=hxvl k h;omega
  ·omega
 have hfarW:∀k,(F k∨w.heap.size≤k)→k≠p∧k≠b∧¬vO k:=λk hk=>by
  rcases hk with h|h
  ·exact H0.far k h
  ·exact⟨by omega,by omega,λe=>by have:=H0.libs.lt k e;omega⟩
 refine⟨λk=>F k∨k=x∨xv.ownBlock=some k∨k=gg,⟨⟨sv,.slice (some ⟨gg,0,none⟩) (l.ix.length+1) cap,xs++[(x,xv)],λk=>S k∨k=x∨xv.ownBlock=some k∨k=gg,⟨hcell,?_,?_,?_,?_,?_,.inl HC.sg,?_,?_,?_,?_⟩,?_,?_,hltW⟩,?_,?_,H0.may,H0.cfg,λk hk=>hfarW k (hnew k hk),H0.lb⟩,FT,hnew⟩
 ·exact HC.segs.kept F1 λk hk hT=>by
   rcases hT with h|h
   ·exact HC.sfar k hk (HC.siv k h)
   ·exact HC.sfar k hk (h▸HC.sg)
 ·intro k hk
  have h5:=HSV k hk;have h6:=H0.lt k h5;rintro(h|h|h|h)
  ·exact HC.sfar k hk h
  ·omega
  ·have:=HXV _ h;omega
  ·rcases HAT3 with h7|h7
   ·exact HC.sfar k hk (HC.siv k (by rw[h7,h]))
   ·omega
 ·have e:(xs++[(x,xv)]).map sW=xs.map sW++[.pointer (some ⟨x,0,none⟩)]:=by simp[sW]
  have e2:(l.more X).ix.length=l.ix.length+1:=by unfold kR.more;simp
  rw[e,e2];exact hrow
 ·unfold kR.more;simp[hxl]
 ·intro i hi hi'
  have e2:(l.more X).ix=l.ix++[X]:=rfl;have eev:(l.more X).ev=l.ev:=rfl;by_cases hc:i<xs.length
  ·have h1:=HC.ixs i hc (by omega)
   have h2:(xs++[(x,xv)])[i]=xs[i]:=List.getElem_append_left hc;have h3:(l.more X).ix[i]=l.ix[i]'(by omega):=(List.getElem_of_eq e2 hi').trans (List.getElem_append_left (by omega));rw[h2,h3,eev];refine h1.kept F1 ?_ ?_
   ·rintro(h|h)
    ·obtain⟨cur,hcur⟩:=tJ HC.row h;exact tI h1.cell hcur (by decide) rfl
    ·exact tI h1.cell HC.cell (by decide) h
   ·rintro k hk (h|h)
    ·obtain⟨cur,hcur⟩:=tJ HC.row h;obtain⟨c9,h9⟩:=tJ h1.own hk;exact tI h9 hcur (by decide) rfl
    ·obtain⟨c9,h9⟩:=tJ h1.own hk;exact tI h9 HC.cell (by decide) h
  ·have hi9:i=xs.length:=by simp at hi;omega
   have h2:(xs++[(x,xv)])[i]=(x,xv):=by subst hi9;simp
   have h3:(l.more X).ix[i]=X:=(List.getElem_of_eq e2 hi').trans (by rw[List.getElem_append_right (by omega)];simp);rw[h2,h3,eev];refine HIX.kept F2 ?_ ?_
   ·rintro(h|h)
    ·have:=H0.lt _ (HSF _ (HC.siv _ h));omega
    ·omega
   ·rintro k hk (h|h)
    ·have:=HXV k hk;have:=H0.lt _ (HSF _ (HC.siv _ h));omega
    ·have:=HXV k hk;omega
 ·intro k hk
  exact .inr (.inr (.inr (Option.some.inj hk).symm))
 ·intro y hy
  rcases List.mem_append.1 hy with h|h
  ·exact⟨.inl (HC.sx y h).1,λk hk=>.inl ((HC.sx y h).2 k hk)⟩
  ·rw[List.mem_singleton.1 h]
   exact⟨.inr (.inl rfl),λk hk=>.inr (.inr (.inl hk))⟩
 ·refine List.pairwise_append.2 ⟨HC.apart,List.pairwise_singleton _ _,λy hy z hz=>?_⟩
  rw[List.mem_singleton.1 hz];have h1:=HC.lt _ (HC.sx y hy).1;refine⟨by show y.1≠x;omega,λk hk e=>?_⟩;have h2:=HC.lt _ ((HC.sx y hy).2 k hk);have h3:=HXV k e;omega
 ·rintro k (h|h|h|h)
  ·exact hltW k (.inl (HSF k h))
  ·exact hltW k (.inr (.inl h))
  ·exact hltW k (.inr (.inr (.inl h)))
  ·exact hltW k (.inr (.inr (.inr h)))
 ·rintro k (h|h|h|h)
  ·exact .inl (HSF k h)
  ·exact .inr (.inl h)
  ·exact .inr (.inr (.inl h))
  ·exact .inr (.inr (.inr h))
 ·exact λk hk=>.inl (HSV k hk)
 ·exact(H0.dk.pure HB1).kept F1 (λh=>by rcases h with h|h;exact(H0.far _ (HSF _ (HC.siv _ h))).1 rfl;exact(H0.far g hgF).1 h.symm) (λh=>by rcases h with h|h;exact(H0.far _ (HSF _ (HC.siv _ h))).2.1 rfl;exact(H0.far g hgF).2.1 h.symm)
 ·exact(H0.libs.pure HB1).kept F1 (λk h hl=>by rcases h with h|h;exact(H0.far _ (HSF _ (HC.siv _ h))).2.2 hl;exact(H0.far g hgF).2.2 (h▸hl))
end
end Go.Proofs.YthjjgcfdhkhelaaGreatDoor
