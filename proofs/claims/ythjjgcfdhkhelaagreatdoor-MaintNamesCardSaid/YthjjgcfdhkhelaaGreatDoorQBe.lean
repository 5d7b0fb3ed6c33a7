/- seg.Join: no payload is wrong. -/
import Derived.Test.YthjjgcfdhkhelaaGreatDoorQBa
import Derived.WalkMore
import Derived.Test.YthjjgcfdhkhelaaGreatDoorQBd
set_option maxHeartbeats 4000000
set_option maxRecDepth 100000
open Go.Lib(hid)
open Go.Proofs.Tryz
namespace Go.Proofs.YthjjgcfdhkhelaaGreatDoor
section
open Go.RowKit
def rZ (w:World)(v:Value)(l:List (List UInt8)):Prop:=∃a c,v = .slice a l.length c∧∀i (h:i<l.length),∃(g:Nat) (x:ByteArray),a=some ⟨g,0,none⟩∧x.data.toList=l[i]∧w.cell? ⟨g,i,none⟩=some (.string x)
theorem rZ.kept {S:Nat→Prop}{w w':World}{v:Value}{l:List (List UInt8)}(h:rZ w v l)(hf:Fr S w w')(hs:∀g,v.ownBlock=some g→¬S g):rZ w' v l:=by
 obtain⟨a,c,rfl,h⟩:=h;refine⟨a,c,rfl,λi hi=>?_⟩;obtain⟨g,x,rfl,h1,h2⟩:=h i hi;exact⟨g,x,rfl,h1,hf.cellAt h2 (hs g rfl)⟩
theorem rZ.pure {w w':World}{v:Value}{l:List (List UInt8)}(h:rZ w v l)(hb:Below w.heap.size w w'):rZ w' v l:=h.kept (Fr.pure (S:=λ_=>False) hb) (λ_ _ e=>e.elim)
theorem rZ.of_own {w:World}{base:Nat}{v:Value}{l:List (List UInt8)}(h:rX w base v l):rZ w v l:=by
 obtain⟨a,c,rfl,_,h⟩:=jf h;refine⟨a,c,rfl,λi hi=>?_⟩;obtain⟨g,h1,_,h2⟩:=h i hi;exact⟨g,_,h1,by simp,h2⟩
theorem r9 (w:World)(p b:Nat)(st:cZ)(h:db w p b st)(v:Value)(l:List (List UInt8))(ht:rZ w v l)(hn:∀n∈l,n.length≤100)(hl:l.length≤1000000)(hap:∀g,v.ownBlock=some g→g≠p∧g≠b) :
  Calls prog 24 #[.pointer (some ⟨p,0,none⟩),v] w λe w'=>d8 p b (kT (goS l) st) w e w':=by
 obtain⟨a,c,rfl,hat⟩:=ht;have H:=hid h;have HA:=hid hat;have HP:=hid hap;have HNS:=hid hn;obtain⟨R,hR⟩:∃R,R=kT (goS l) st:=⟨_,rfl⟩;rw[← hR];have HR:=hid hR;clear h hat hap hn hR
 go_enter func24,ntmps24
 go_wp2
 go_loopw [10] (λi wr=>∃(k:Nat) (sk:cZ),i = .int .i64 k∧k≤l.length∧Hid (db wr p b sk)∧Hid (dY p b w wr)∧Hid (R=kT (goS (l.drop k)) sk)) (λi _=>l.length-(intOf i).toNat)
 case atStart=>exact⟨0,st,rfl,by omega,H,hid (Fr.refl _ _),HR⟩
 case round=>
  obtain⟨k,sk,rfl,hk,HD,HF,HQ⟩:=hrel;by_cases hlt:k<l.length
  ·obtain⟨g,x,rfl,hx,hc⟩:=HA.out k hlt
   have hc1:wr.cell? ⟨g,k,none⟩=some (.string x):=HF.out.cellAt hc (λe=>by have:=HP.out g rfl;omega);have hsz:x.size≤100:=by rw[← ak,hx];exact HNS.out _ (List.getElem_mem hlt)
   have HQ1:=hid (show R=if (eh sk x.data.toList).2≠0 then eh sk x.data.toList else kT (goS (l.drop (k+1))) (eh sk x.data.toList).1 from by
    rw[HQ.out,List.drop_eq_getElem_cons hlt,hx];rfl)
   clear hc hx HQ
   go_wp2_with fail
   refine(eC wr p b sk HD.out x (by unfold maxLen;omega)).mono ?_;rintro e w1 ⟨rfl,hd1,hf1⟩;have HD1:=hid hd1;have HF1:=hid (HF.out.trans hf1);clear hd1 hf1;obtain⟨D,hD⟩:∃D,D=eh sk x.data.toList:=⟨_,rfl⟩;rw[← hD]at HQ1 HD1 ⊢;obtain⟨s1,e1⟩:=D;dsimp only at HQ1 HD1 ⊢;clear hD;by_cases he:e1=0
   ·subst he
    have HQ2:=hid (show R=kT (goS (l.drop (k+1))) s1 from by rw[HQ1.out,if_neg (by simp)]);go_wp2
    go_roundw
    case rel=>exact⟨k+1,s1,by go_num,by omega,HD1,HF1,HQ2⟩
    case measure=>simp[intOf];omega
   ·have h1:(e1 != 0)=true:=by simpa using he
    have h2:(e1 == 0)=false:=by simpa using he
    have HQ2:=hid (show R=(s1,e1)from by rw[HQ1.out,if_pos he]);go_wp2;go_ret;rw[HQ2.out];exact⟨rfl,HD1.out,HF1.out⟩
  ·have HQ2:=hid (show R=(sk,0)from by rw[HQ.out,List.drop_of_length_le (by omega)];rfl)
   go_wp2;go_ret;rw[HQ2.out];exact⟨rfl,HD.out,HF.out⟩
theorem sf (w:World)(gn q:Int)(sv:Value)(l:bI)(hs:bJ w sv l)(hl:l.length≤1000000) :
  Calls prog 23 #[.agg #[.int .i64 gn,sv],.int .i64 q] w λe w'=>e = .returned (.int .i64 (rm q l:Nat))∧Below w.heap.size w w':=by
 obtain⟨a,c,rfl⟩:=hs.shape;have hs0:=hs;obtain⟨W0,hW0⟩:∃W0,W0=w.alloc (.cells #[.int .i64 gn,.slice a l.length c] 42):=⟨_,rfl⟩;have hb0:Below w.heap.size w W0:=by rw[hW0];exact(Below.refl _ _).alloc (Nat.le_refl _) _
 have hr0:W0.heap[w.heap.size]?=some (.cells #[.int .i64 gn,.slice a l.length c] 42 (0,0)):=by rw[hW0];exact heap_alloc_new _ _
 have x1:W0.cell? ⟨w.heap.size,1,none⟩=some (.slice a l.length c):=(cell_of_row _ _ _ _ _ _ hr0).trans rfl;have HB0:=hid hb0;have HS:=hid (hs0.pure hb0);clear hs hs0 hb0 hr0
 go_enter func23,ntmps23
 go_wp2_with fail
 try rw[← hW0]
 clear hW0
 go_step3
 go_wp2_with fail
 go_step3
 go_wp2_with fail
 go_loopw [5,10] (λn i wr=>∃k:Nat,n = .int .i64 k∧i = .int .i64 k∧k≤l.length∧wr=W0∧Hid (rm q (l.drop k)+k=rm q l)) (λ_ i _=>l.length-(intOf i).toNat)
 case atStart=>exact⟨0,rfl,rfl,by omega,rfl,hid (by simp)⟩
 case round=>
  obtain⟨k,rfl,rfl,hk,rfl,HM⟩:=hrel;by_cases hlt:k<l.length
  ·by_cases hk1:k+1=l.length
   ·have e1:((k:Int) == (l.length:Int)-1)=true:=by simp;omega
    have HF:=hid (show rm q l=k from by
     rw[← HM.out,List.drop_eq_getElem_cons hlt,List.drop_of_length_le (by omega)];simp[rm])
    clear HM;go_wp2;simp only[Exit.noGoto];go_ret;exact⟨by rw[HF.out];rfl,HB0.out⟩
   ·have e1:((k:Int) == (l.length:Int)-1)=false:=by simp;omega
    obtain⟨b,o,rfl,_,g2,_⟩:=HS.out.at (k+1) (by omega);have HD:=hid (show rm q (l.drop k)=if q<l[k+1].2 then 0 else rm q (l.drop (k+1))+1 from by
     rw[List.drop_eq_getElem_cons hlt,List.drop_eq_getElem_cons (show k+1<l.length by omega)];rfl)
    obtain⟨y,hy⟩:∃y,y=l[k+1].2:=⟨_,rfl⟩;rw[← hy]at g2 HD;clear hy;by_cases hq:q<y
    ·have d1:decide (y > q)=true:=by simpa using hq
     have HF:=hid (show rm q l=k from by rw[← HM.out,HD.out,if_pos hq];omega);clear HM HD;go_wp2;simp only[Exit.noGoto];go_ret;exact⟨by rw[HF.out];rfl,HB0.out⟩
    ·have d1:decide (y > q)=false:=by simpa using hq
     have HF:=hid (show rm q (l.drop (k+1))+(k+1)=rm q l from by rw[← HM.out,HD.out,if_neg hq];omega);clear HM HD;go_wp2
     go_roundw
     case rel=>
      refine⟨k+1,?_,?_,?_,?_⟩<;>first|exact HF|omega|(go_num;done)
     case measure=>simp[intOf];omega
  ·have HF:=hid (show rm q l=k from by rw[← HM.out,List.drop_of_length_le (by omega)];simp[rm])
   clear HM;go_wp2;simp only[Exit.noGoto];go_ret;exact⟨by rw[HF.out];rfl,HB0.out⟩
def vf (LF:List UInt8→List UInt8×Int)(p:List UInt8):Prop:=∀(W:World) (s:ByteArray),uL W→s.data.toList=p →
 Calls prog 144 #[.string s] W λe w'=>(∃r:ByteArray,r.data.toList=(LF p).1∧e = .returned (.tuple #[.string r,.int .i64 (LF p).2]))∧Below W.heap.size W w'
theorem Tryz.infoText:(prog.info? 9).map (λi=>(i.zero,i.size,i.bytes))=some (some (.string ⟨#[]⟩),1,16):=by kernel_rfl
theorem vg (LF:List UInt8→List UInt8×Int)(w:World)(hk:uL w)(v:Value)(l:List (List UInt8))(ht:rZ w v l)(hl:l.length≤1000000)(hf:∀p∈l,vf LF p) :
  Calls prog 80 #[v] w λe w'=>(∃o,e = .returned (.tuple #[o,.bool (qR LF l).2.1,.int .i64 (qR LF l).2.2])∧rX w' w.heap.size o (qR LF l).1)∧Below w.heap.size w w':=by
 obtain⟨a,c,rfl,hat⟩:=ht;have HA:=hid hat;have HF:=hid hf;have HK:=hid hk;obtain⟨i0,hi,hz0,hz1,hz2⟩:=info_parts Tryz.infoText;have HI:=hid hi;have HZ0:=hid hz0;have HZ1:=hid hz1;have HZ2:=hid hz2;obtain⟨B,hB⟩:∃B,B=w.heap.size:=⟨_,rfl⟩;have HBB:=hid hB;clear hat hf hk hi hz0 hz1 hz2;rw[← hB];clear hB
 go_enter func80,ntmps80
 go_wp2
 go_loopw [2,3,11] (λo s i wr=>∃(k:Nat) (sb:Bool),i = .int .i64 k∧s = .bool sb∧k≤l.length∧Hid (Below B w wr)∧Hid (rX wr B o ((l.take k).map λp=>(LF p).1))∧Hid (∀j (h:j<l.length),j<k→(LF l[j]).2=0)∧Hid (sb=(l.take k).any (λp=>decide ((LF p).1≠p)))) (λ_ _ i _=>l.length-(intOf i).toNat)
 case atStart=>exact⟨0,false,rfl,rfl,by omega,hid (Below.refl _ _),hid (World.ownsRow_nil _ _ _ _),hid (λj _ h=>by omega),hid rfl⟩
 case round=>
  obtain⟨k,sb,rfl,rfl,hk,HB,HO,HG,HS⟩:=hrel;by_cases hlt:k<l.length
  ·obtain⟨g,x,rfl,hx,hc⟩:=HA.out k hlt
   have hBw:Below w.heap.size w wr:=by rw[← HBB.out];exact HB.out
   have hc1:wr.cell? ⟨g,k,none⟩=some (.string x):=vd hc hBw;have HL:=hid (HF.out l[k] (List.getElem_mem hlt) wr x (HK.out.pure hBw) hx);have HX:=hid hx;obtain⟨l0,n0,c9,rfl⟩:=aB HO.out;clear hc hx hBw
   go_wp2_with fail
   refine HL.out.mono ?_;rintro e w1 ⟨⟨r,hr,rfl⟩,hb1⟩;have hsz:B≤wr.heap.size:=by rw[HBB.out];exact HB.out.size
   have HB1:=hid (HB.out.trans (hb1.mono hsz));have HO1:=hid (show rX w1 B (.slice l0 n0 c9) ((l.take k).map λp=>(LF p).1)from(Fr.pure (S:=λ_=>False) hb1).ownsRow HO.out (λ_ _ h=>h));have HRR:=hid hr;clear hr hb1;obtain⟨P,hP⟩:∃P,P=LF l[k]:=⟨_,rfl⟩;rw[← hP]at HRR ⊢;obtain⟨pb,pe⟩:=P;dsimp only at HRR ⊢;by_cases he:pe=0
   ·subst he
    have hq:(!(r.toList == x.toList))=decide (pb≠l[k]):=by
     rw[ByteArray.toList_eq,ByteArray.toList_eq,HRR.out,HX.out];by_cases h:pb=l[k]<;>simp[h]
    have HSN:=hid (show(sb || (!(r.toList == x.toList)))=(l.take (k+1)).any (λp=>decide ((LF p).1≠p))from by
     rw[hq,HS.out,List.take_succ_eq_append_getElem hlt,List.any_append];simp[← hP])
    have HGN:=hid (show ∀j (h:j<l.length),j<k+1→(LF l[j]).2=0 from λj hj hj2=>by
     by_cases hjk:j=k
     ·subst hjk;rw[← hP]
     ·exact HG.out j hj (by omega))
    have HTK:=hid (show(l.take (k+1)).map (λp=>(LF p).1)=(l.take k).map (λp=>(LF p).1)++[pb]from by
     rw[List.take_succ_eq_append_getElem hlt,List.map_append];simp[← hP])
    have hown:=HO1.out;unfold rX at hown;have hlk:((l.take k).map λp=>(LF p).1).length=k:=by simp;omega
    rw[hlk]at hown;have HO2:=hid (hown.alloc (.cells #[.string r] 9));have hs2:B≤w1.heap.size:=by have:=HB1.out.size;rw[HBB.out];exact this
    have HLK:=hid hlk;clear hown hlk hP HG HS hq;cases sb
    all_goals
     go_wp2_with (first
      | (refine wpList_append_lies _ rfl _ _ 70 rfl B 9 i0 _ 1 16 underlying70 HI.out HZ0.out HZ1.out HZ2.out rfl (by omega) _ k _ rfl HO2.out ⟨w1.heap.size,0,none⟩ 1 1 [.string r] rfl rfl (aC rfl rfl) (by simp[Value.oneCell']) (by omega) (by unfold maxLen;omega) (by omega) (by have:=HBB.out;simp;omega) (w1.heap.size+1) (by simp) ?_;intro gg cap w8 hown8 hgrow8 hat8 hlt8))
     go_roundw
     case rel=>
      refine⟨k+1,_,by go_num,rfl,by omega,hid ?_,hid ?_,HGN,hid HSN.out⟩
      ·exact(HB1.out.alloc hs2 _).grown hgrow8 (by have:=HBB.out;simp;omega) (λj e=>gt HO1.out e)
      ·rw[HTK.out]
       unfold rX;rw[List.map_append,List.length_append,List.map_cons,List.map_nil,← jP HRR.out,HLK.out];exact hown8
     case measure=>simp[intOf];omega
   ·have h1:(pe != 0)=true:=by simpa using he
    have h2:(pe == 0)=false:=by simpa using he
    have HF:=hid (show qR LF l=([],false,4)from by
     unfold qR;rw[if_neg];intro h;have:=List.all_eq_true.1 h _ (List.getElem_mem hlt);rw[← hP]at this;simp at this;exact he this)
    clear hP;go_wp2;rw[HF.out];exact bodyPost_ret (v:=.tuple #[.slice none 0 0,.bool false,.int .i64 4]) (by simp[results,results80,go_sem]) rfl ⟨⟨_,rfl,World.ownsRow_nil _ _ _ _⟩,HB1.out⟩
  ·have hk2:k=l.length:=by omega
   obtain⟨l0,n0,c9,rfl⟩:=aB HO.out;have HF:=hid (show qR LF l=(l.map (λp=>(LF p).1),sb,0)from by
    unfold qR;rw[if_pos,HS.out,List.take_of_length_le (by omega)];rw[List.all_eq_true];intro p hp;obtain⟨j,hj,rfl⟩:=List.getElem_of_mem hp;exact decide_eq_true (HG.out j hj (by omega)))
   have HOL:=hid (show rX wr B (.slice l0 n0 c9) (l.map λp=>(LF p).1)from by have:=HO.out;rwa [List.take_of_length_le (by omega)]at this);clear HG HS HO;go_wp2;rw[HF.out];exact bodyPost_ret (v:=.tuple #[.slice l0 n0 c9,.bool sb,.int .i64 0]) (by simp[results,results80,go_sem]) rfl ⟨⟨_,rfl,HOL.out⟩,HB.out⟩
theorem Tryz.infoAnew:(prog.info? 81).map (λi=>(i.zero,i.size,i.bytes))=some (some (.agg #[.int .i64 0,.slice none 0 0]),2,32):=by kernel_rfl
def vh (A:List (qT×Value)):List Value:=A.flatMap λx=>[.int .i64 (x.1.1:Int),x.2]
def vj (w:World)(base:Nat)(v:Value)(A:List qT):Prop:=
 ∃B:List (qT×Value),B.map (·.1)=A∧w.ownsRow base 81 2 v A.length (vh B)∧∀x∈B,rZ w x.2 x.1.2∧∀g,x.2.ownBlock=some g→base≤g
theorem vj.nil (w:World)(base:Nat):vj w base (.slice none 0 0) []:=⟨[],rfl,World.ownsRow_nil _ _ _ _,λx hx=>by cases hx⟩
theorem vj.pure {w w':World}{base:Nat}{v:Value}{A:List qT}(h:vj w base v A)(hb:Below w.heap.size w w'):vj w' base v A:=by
 obtain⟨B,h1,h2,h3⟩:=h;exact⟨B,h1,(Fr.pure (S:=λ_=>False) hb).ownsRow h2 (λ_ _ e=>e),λx hx=>⟨(h3 x hx).1.pure hb,(h3 x hx).2⟩⟩
theorem vj.mono {w:World}{base base':Nat}{v:Value}{A:List qT}(h:vj w base v A)(hb:base'≤base):vj w base' v A:=by
 obtain⟨B,h1,h2,h3⟩:=h;exact⟨B,h1,az h2 (λg e=>Nat.le_trans hb (gt h2 e)),λx hx=>⟨(h3 x hx).1,λg e=>Nat.le_trans hb ((h3 x hx).2 g e)⟩⟩
theorem vk {w w':World}{base:Nat}{lv:Value}{B:List (qT×Value)}(how:w.ownsRow base 81 2 lv B.length (vh B))(hf:Fr (λy=>lv.ownBlock=some y) w w')(hB:B≠[]){v:Value}{l:List (List UInt8)}(ht:rZ w v l):rZ w' v l:=by
 obtain⟨a,c,rfl,h⟩:=ht;refine⟨a,c,rfl,λi hi=>?_⟩;obtain⟨g,x,rfl,h1,h2⟩:=h i hi;refine⟨g,x,rfl,h1,hf.cellAt h2 (λe=>?_)⟩;obtain⟨g0,x0,hg0,_,h3⟩:=h 0 (by omega);cases hg0
 rcases how.2 with⟨e2,_⟩|⟨g',cap,cur,rfl,hg,hh,hn,hcm,hcs,htk⟩
 ·rw[e2]at e;cases e
 ·cases e
  have h4:=(cell_of_row _ _ 0 _ _ _ hh).symm.trans h3;obtain⟨y,r,rfl⟩:=List.exists_cons_of_ne_nil hB;have h5:cur[0]?=some (.int .i64 (y.1.1:Int)):=by
   have h6:cur.toList.take ((y::r).length*2)=vh (y::r):=htk;have h7:=congrArg (λz=>z[0]?) h6
   (try dsimp only at h7)
   rw[List.getElem?_take,if_pos (by simp)]at h7;simpa[vh]using h7
  rw[h5]at h4;cases h4
def vl (l:kR)(k:Nat):Int:=((l.segs[k+1]?).map (·.2)).getD (l.next:Int)
theorem vm (LF:List UInt8→List UInt8×Int)(l:kR)(k:Nat)(hk:k<l.segs.length) :
  qU LF l k (l.segs.drop k)=(let L:=qR LF (qS l l.segs[k] (vl l k));if L.2.2≠0 then ([],L.2.2) else let T:=qU LF l (k+1) (l.segs.drop (k+1));if T.2≠0 then ([],T.2) else ((if L.2.1 then [(k,L.1)] else [])++T.1,0)):=by
 rw[List.drop_eq_getElem_cons hk,qU];have e:((l.segs.drop (k+1)).head?.map (·.2)).getD (l.next:Int)=vl l k:=by
  unfold vl;rw[List.head?_drop]
 rw[e]
theorem vp (LF:List UInt8→List UInt8×Int)(l:kR)(k:Nat)(s:bI):qU LF l k s=if (qU LF l k s).2≠0 then ([],(qU LF l k s).2) else ((qU LF l k s).1,0):=by
 cases s with
 | nil=>simp[qU]
 | cons x r=>
  rw[qU]
  (try dsimp only)
  split
  ·rfl
  ·split
   ·rfl
   ·simp
def vq (l:kR):Prop:=∀k (h:k<l.segs.length),∃q r:Nat,l.segs[k].2=(q:Int)∧vl l k=(r:Int)∧l.first≤(q:Int)∧q≤r∧r≤l.next
theorem vt (w:World)(F:Nat→Prop)(g p b:Nat)(st:cZ)(l:kR)(h:tp w F g p b st l)(hon:LgOn st l)(hlit:st.dark=false)(q r:Nat)(h1:l.first≤(q:Int))(h2:q≤r)(h3:r≤l.next) :
  Calls prog 44 #[.pointer (some ⟨g,0,none⟩),.int .i64 (q:Int),.int .i64 (r:Int)] w λe w'=>(∃v,e = .returned (.tuple #[v,.int .i64 0])∧rX w' w.heap.size v ((l.all.drop (q-l.first.toNat)).take (r-q)))∧Below w.heap.size w w':=by
 by_cases he:q=r
 ·subst he
  refine(um w F g p b st l h q h1 h3).mono ?_;rintro e w' ⟨rfl,hb⟩;refine⟨⟨_,rfl,?_⟩,hb⟩;rw[Nat.sub_self,List.take_zero];exact World.ownsRow_nil _ _ _ _
 ·exact ul w F g p b st l h hon hlit q r h1 (by omega) h3
theorem vw (LF:List UInt8→List UInt8×Int)(w:World)(F:Nat→Prop)(g p b:Nat)(st:cZ)(l:kR)(h:tp w F g p b st l)(hon:LgOn st l)(hlit:st.dark=false)(hse:vq l)(hk:uL w)(hlf:∀x∈l.all,vf LF x)(hal:l.all.length≤1000000) :
  Calls prog 27 #[.pointer (some ⟨g,0,none⟩)] w λe w'=>(∃v,e = .returned (.tuple #[v,.int .i64 (qV LF l).2])∧vj w' w.heap.size v (qV LF l).1)∧Below w.heap.size w w':=by
 have H:=hid h;have HON:=hid hon;have HLT:=hid hlit;have HSE:=hid hse;have HK:=hid hk;have HLF:=hid hlf;have HAL:=hid hal;have hpos:=h.ok.pos;have hfew:=h.ok.few;have hlen:=h.ok.len;obtain⟨B,hB⟩:∃B,B=w.heap.size:=⟨_,rfl⟩;have HBB:=hid hB;have HLN:=hid hlen;clear h hon hlit hse hk hlf hal hlen;rw[← hB];clear hB;obtain⟨i0,hi,hz0,hz1,hz2⟩:=info_parts Tryz.infoAnew;have HI:=hid hi;have HZ0:=hid hz0;have HZ1:=hid hz1;have HZ2:=hid hz2;clear hi hz0 hz1 hz2
 go_enter func27,ntmps27
 go_wp2_with fail
 refine(tm w F g p l H.out.lg hfew hpos).mono ?_;rintro e w1 ⟨sv,rfl,hown,hob,hb1⟩;obtain⟨a,c,rfl⟩:=hown.at.shape
 go_wp2_with fail
 obtain⟨W1,hW1⟩:∃W1,W1=w1.alloc (.cells #[.int .i64 l.gen,.slice a l.segs.length c] 42):=⟨_,rfl⟩;have hb2:Below w1.heap.size w1 W1:=by rw[hW1];exact(Below.refl _ _).alloc (Nat.le_refl _) _
 have k1:W1.heap[w1.heap.size]?=some (.cells #[.int .i64 l.gen,.slice a l.segs.length c] 42 (0,0)):=by rw[hW1];exact heap_alloc_new _ _
 have HM:=hid k1;have HS:=hid (hown.at.pure hb2);have HB1:=hid (hb1.trans (hb2.mono hb1.size));rw[← hW1];clear hW1 hown hob hb1 hb2 k1
 go_loopw [4,18] (λo i wr=>∃(k:Nat) (A:List qT),i = .int .i64 k∧k≤l.segs.length∧Hid (Below W1.heap.size W1 wr)∧Hid (vj wr W1.heap.size o A)∧Hid (A.length≤k)∧Hid (qV LF l=if (qU LF l k (l.segs.drop k)).2≠0 then ([],(qU LF l k (l.segs.drop k)).2) else (A++(qU LF l k (l.segs.drop k)).1,0))) (λ_ i _=>l.segs.length-(intOf i).toNat)
 case atStart=>exact⟨0,[],rfl,by omega,hid (Below.refl _ _),hid (vj.nil _ _),hid (by simp),hid (by
  unfold qV;rw[List.drop_zero,List.nil_append];exact vp LF l 0 l.segs)⟩
 case round=>
  obtain⟨k,A,rfl,hk,HB,HO,HAK,HQ⟩:=hrel;have hBw:Below w.heap.size w wr:=HB1.out.trans (HB.out.mono HB1.out.size);have HBW:=hid hBw;obtain⟨B0,hB0,how,hB1⟩:=HO.out;obtain⟨l0,n0,c0,rfl⟩:=aB how;have HOB:=hid (show ∀y,(Value.slice l0 n0 c0).ownBlock=some y→y<wr.heap.size from λy e=>sT how e);clear hBw;by_cases hlt:k<l.segs.length
  ·obtain⟨qq,rr,hq1,hr1,hq2,hqr,hr2⟩:=HSE.out k hlt
   have HQR:=hid (And.intro hq1 (And.intro hr1 (And.intro hq2 (And.intro hqr hr2))));obtain⟨sb,so,rfl,s1,s2,_⟩:=(HS.out.pure HB.out).at k hlt;rw[hq1]at s2;obtain⟨m0,hm0⟩:∃m0,m0=wr.heap.size:=⟨_,rfl⟩;have hx:∀o,Below wr.heap.size wr (wr.alloc o):=λo=>(Below.refl _ _).alloc (Nat.le_refl _) _;have HENV:=hid (H.out.pure HBW.out);have HSTEP:=hid (vm LF l k hlt);clear hq1 hr1 hq2 hqr hr2 hm0
   go_wp2_with fail
   obtain⟨W2,hW2⟩:∃W2,W2=wr.alloc (.cells #[.int .i64 l.segs[k].1,.int .i64 (qq:Int)] 48):=⟨_,rfl⟩;have hb2:Below wr.heap.size wr W2:=by rw[hW2];exact hx _
   have k2:W2.heap[wr.heap.size]?=some (.cells #[.int .i64 l.segs[k].1,.int .i64 (qq:Int)] 48 (0,0)):=by rw[hW2];exact heap_alloc_new _ _
   rw[← hW2];clear hW2 s1 s2 hx;refine(sZ W2 F g p l (HENV.out.pure hb2).lg (by rw[HLN.out];omega) (by rw[HLN.out];omega)).mono ?_;rintro e w3 ⟨rfl,hb3⟩;have hb23:Below wr.heap.size wr w3:=hb2.trans (hb3.mono hb2.size);have HB3:=hid (HB.out.trans (hb23.mono HB.out.size));have m1:w3.cell? ⟨w1.heap.size,1,none⟩=some (.slice (some ⟨sb,so,none⟩) l.segs.length c):=vd (vd ((cell_of_row _ _ _ _ _ _ HM.out).trans rfl) HB.out) hb23;have e1:w3.cell? ⟨wr.heap.size,1,none⟩=some (.int .i64 (qq:Int)):=vd ((cell_of_row _ _ _ _ _ _ k2).trans rfl) hb3;have HENV3:=hid (HENV.out.pure hb23);have HA3:=hid ((show vj wr W1.heap.size (.slice l0 n0 c0) A from HO.out).pure hb23);have HK3:=hid ((HK.out.pure HBW.out).pure hb23);have HS3:=hid ((HS.out.pure HB.out).pure hb23);have HBW3:=hid (HBW.out.trans (hb23.mono HBW.out.size));have HRG:=hid (vt w3 F g p b st l HENV3.out HON.out HLT.out qq rr HQR.out.2.2.1 HQR.out.2.2.2.1 HQR.out.2.2.2.2);have HPAY:=hid (show(l.all.drop (qq-l.first.toNat)).take (rr-qq)=qS l l.segs[k] (vl l k)from by
    unfold qS;rw[HQR.out.1,HQR.out.2.1];simp)
   have HEND:=hid HQR.out.2.1;have HSZ3:=hid hb23.size;clear k2 hb2 hb3 hb23 how hB0 hB1;have hgo:k+1<l.segs.length∨(¬k+1<l.segs.length∧(l.next:Int)=(rr:Int)):=by
    by_cases hl2:k+1<l.segs.length
    ·exact .inl hl2
    ·refine .inr ⟨hl2,?_⟩
     rw[← HEND.out];unfold vl;rw[List.getElem?_eq_none (by omega)];rfl
   rcases hgo with hl2|⟨hl2,hnx⟩
   ·have hrr:l.segs[k+1].2=(rr:Int):=by
     rw[← HEND.out];unfold vl;rw[List.getElem?_eq_getElem hl2];rfl
    obtain⟨_,_,hbo,_,g2,_⟩:=HS3.out.at (k+1) hl2;cases hbo;rw[hrr]at g2;have hc:((k:Int)+1<(l.segs.length:Int)):=by omega
    clear hrr
    go_wp2_with fail
    refine HRG.out.mono ?_;rintro e w4 ⟨⟨v4,rfl,hv4⟩,hb4⟩;rw[HPAY.out]at hv4;have ht4:=rZ.of_own hv4;have HT4:=hid ht4;have HA4:=hid (HA3.out.pure hb4);have HK4:=hid (HK3.out.pure hb4);have HBW4:=hid (HBW3.out.trans (hb4.mono HBW3.out.size));have HB4:=hid (HB3.out.trans (hb4.mono HB3.out.size));obtain⟨pa,pc,rfl,_⟩:=ht4;have HSZ:=hid (show wr.heap.size≤w4.heap.size from by have:=HSZ3.out;have:=hb4.size;omega);have HB4S:=hid HB4.out.size;clear hb4 hv4 m1 e1 g2
    go_wp2_with fail
    refine(vg LF w4 HK4.out _ _ HT4.out (by have:=HAL.out;unfold qS;simp only[List.length_take,List.length_drop];omega) (λp hp=>HLF.out p (List.mem_of_mem_drop (List.mem_of_mem_take hp)))).mono ?_;rintro e w5 ⟨⟨o5,rfl,ho5⟩,hb5⟩;have HA5:=hid (HA4.out.pure hb5);have HBW5:=hid (HBW4.out.trans (hb5.mono HBW4.out.size));have HB5:=hid (HB4.out.trans (hb5.mono HB4.out.size));have HTO:=hid (And.intro (rZ.of_own ho5) (show ∀y,o5.ownBlock=some y→w4.heap.size≤y from λy e=>gt ho5 e));obtain⟨L,hL⟩:∃L,L=qR LF (qS l l.segs[k] (vl l k)):=⟨_,rfl⟩;rw[← hL]at HTO HSTEP ⊢;obtain⟨Lp,Ls,Lc⟩:=L;dsimp only at HTO HSTEP ⊢;clear hL hb5 ho5;by_cases hc0:Lc=0
    ·subst hc0
     have hN:∀A',(A'=A++(if Ls then [(k,Lp)] else []))→qV LF l=if (qU LF l (k+1) (l.segs.drop (k+1))).2≠0 then ([],(qU LF l (k+1) (l.segs.drop (k+1))).2) else (A'++(qU LF l (k+1) (l.segs.drop (k+1))).1,0):=by
      rintro A' rfl;rw[HQ.out,HSTEP.out,if_neg (show ¬((0:Int)≠0)from by simp)]
      (try dsimp only)
      by_cases hT:(qU LF l (k+1) (l.segs.drop (k+1))).2=0
      ·simp[hT]
      ·simp[hT]
     have HN:=hid hN;clear hN HSTEP HQ;obtain⟨⟨ta,tc,rfl,htx⟩,hto⟩:=HTO.out;cases Ls
     ·have hk1:=HAK.out
      go_wp2
      go_roundw
      case rel=>exact⟨k+1,A,by go_num,by omega,HB5,HA5,hid (by omega),hid (HN.out A (by simp))⟩
      case measure=>simp[intOf];omega
     ·obtain⟨B0,hB0,how,hB1⟩:=HA5.out
      have HOW:=hid (how.alloc (.cells #[.int .i64 (k:Int),.slice ta Lp.length tc] 81));have HBX:=hid (And.intro hB0 hB1);have HOX:=hid how;have HTX:=hid (show rZ w5 (.slice ta Lp.length tc) Lp from⟨ta,tc,rfl,htx⟩);have HTB:=hid hto;have hak:=HAK.out;have hs5:W1.heap.size≤w5.heap.size:=HB5.out.size;clear hB0 how hB1 htx hto
      go_wp2_with (first
       | (refine wpList_append_lies _ rfl _ _ 73 rfl W1.heap.size 81 i0 _ 2 32 underlying73 HI.out HZ0.out HZ1.out HZ2.out rfl (by omega) _ A.length _ rfl HOW.out ⟨w5.heap.size,0,none⟩ 1 1 [.int .i64 (k:Int),.slice ta Lp.length tc] rfl rfl (aC rfl rfl) (by simp[Value.oneCell']) (by omega) (by unfold maxLen;omega) (by omega) (by simp;omega) (w5.heap.size+1) (by simp) ?_;intro gg cap w8 hown8 hgrow8 hat8 hlt8))
      go_roundw
      case rel=>
       have hlb:∀y,(Value.slice l0 n0 c0).ownBlock=some y→y<w4.heap.size∧W1.heap.size≤y:=λy e=>⟨by have:=HOB.out y e;have:=HSZ.out;omega,gt HOX.out e⟩;have hf8:Fr (λy=>(Value.slice l0 n0 c0).ownBlock=some y) w5 w8:=((Fr.refl _ w5).alloc _).grown hgrow8 (λy _ e=>e);refine⟨k+1,A++[(k,Lp)],by go_num,by omega,hid ?_,hid ⟨B0++[((k,Lp),.slice ta Lp.length tc)],by rw[List.map_append,HBX.out.1];rfl,?_,?_⟩,hid (by simp;omega),hid (HN.out _ (by simp))⟩
       ·exact HB5.out.trans (hf8.below HB5.out.size (λy hy e=>by have:=(hlb y e).2;omega))
       ·have e1:vh (B0++[((k,Lp),.slice ta Lp.length tc)])=vh B0++[.int .i64 (k:Int),.slice ta Lp.length tc]:=by simp[vh]
        rw[e1,List.length_append];exact hown8
       ·intro x hx
        rcases List.mem_append.1 hx with hx|hx
        ·have hne:B0≠[]:=λe=>by rw[e]at hx;cases hx
         have hlen:A.length=B0.length:=by rw[← HBX.out.1];simp
         have hox:=HOX.out;rw[hlen]at hox;exact⟨vk hox hf8 hne (HBX.out.2 x hx).1,(HBX.out.2 x hx).2⟩
        ·obtain rfl:=List.mem_singleton.1 hx
         exact⟨HTX.out.kept hf8 (λy e e2=>by have:=HTB.out y e;have:=(hlb y e2).1;omega),λy e=>by have:=HTB.out y e;have:=HB4S.out;omega⟩
      case measure=>simp[intOf];omega
    ·have h1:(Lc != 0)=true:=by simpa using hc0
     have h2:(Lc == 0)=false:=by simpa using hc0
     have HF:=hid (show qV LF l=([],Lc)from by rw[HQ.out,HSTEP.out,if_pos hc0,if_pos hc0]);clear HSTEP HQ;go_wp2;rw[HF.out];exact bodyPost_ret (v:=.tuple #[.slice none 0 0,.int .i64 Lc]) (by simp[results,results27,go_sem]) rfl ⟨⟨_,rfl,vj.nil _ _⟩,by rw[HBB.out];exact HBW5.out⟩
   ·have hc:decide ((k:Int)+1<(l.segs.length:Int))=false:=by simp;omega
    go_wp2_with fail
    refine HRG.out.mono ?_;rintro e w4 ⟨⟨v4,rfl,hv4⟩,hb4⟩;rw[HPAY.out]at hv4;have ht4:=rZ.of_own hv4;have HT4:=hid ht4;have HA4:=hid (HA3.out.pure hb4);have HK4:=hid (HK3.out.pure hb4);have HBW4:=hid (HBW3.out.trans (hb4.mono HBW3.out.size));have HB4:=hid (HB3.out.trans (hb4.mono HB3.out.size));obtain⟨pa,pc,rfl,_⟩:=ht4;have HSZ:=hid (show wr.heap.size≤w4.heap.size from by have:=HSZ3.out;have:=hb4.size;omega);have HB4S:=hid HB4.out.size;clear hb4 hv4 m1 e1
    go_wp2_with fail
    refine(vg LF w4 HK4.out _ _ HT4.out (by have:=HAL.out;unfold qS;simp only[List.length_take,List.length_drop];omega) (λp hp=>HLF.out p (List.mem_of_mem_drop (List.mem_of_mem_take hp)))).mono ?_;rintro e w5 ⟨⟨o5,rfl,ho5⟩,hb5⟩;have HA5:=hid (HA4.out.pure hb5);have HBW5:=hid (HBW4.out.trans (hb5.mono HBW4.out.size));have HB5:=hid (HB4.out.trans (hb5.mono HB4.out.size));have HTO:=hid (And.intro (rZ.of_own ho5) (show ∀y,o5.ownBlock=some y→w4.heap.size≤y from λy e=>gt ho5 e));obtain⟨L,hL⟩:∃L,L=qR LF (qS l l.segs[k] (vl l k)):=⟨_,rfl⟩;rw[← hL]at HTO HSTEP ⊢;obtain⟨Lp,Ls,Lc⟩:=L;dsimp only at HTO HSTEP ⊢;clear hL hb5 ho5;by_cases hc0:Lc=0
    ·subst hc0
     have hN:∀A',(A'=A++(if Ls then [(k,Lp)] else []))→qV LF l=if (qU LF l (k+1) (l.segs.drop (k+1))).2≠0 then ([],(qU LF l (k+1) (l.segs.drop (k+1))).2) else (A'++(qU LF l (k+1) (l.segs.drop (k+1))).1,0):=by
      rintro A' rfl;rw[HQ.out,HSTEP.out,if_neg (show ¬((0:Int)≠0)from by simp)]
      (try dsimp only)
      by_cases hT:(qU LF l (k+1) (l.segs.drop (k+1))).2=0
      ·simp[hT]
      ·simp[hT]
     have HN:=hid hN;clear hN HSTEP HQ;obtain⟨⟨ta,tc,rfl,htx⟩,hto⟩:=HTO.out;cases Ls
     ·have hk1:=HAK.out
      go_wp2
      go_roundw
      case rel=>exact⟨k+1,A,by go_num,by omega,HB5,HA5,hid (by omega),hid (HN.out A (by simp))⟩
      case measure=>simp[intOf];omega
     ·obtain⟨B0,hB0,how,hB1⟩:=HA5.out
      have HOW:=hid (how.alloc (.cells #[.int .i64 (k:Int),.slice ta Lp.length tc] 81));have HBX:=hid (And.intro hB0 hB1);have HOX:=hid how;have HTX:=hid (show rZ w5 (.slice ta Lp.length tc) Lp from⟨ta,tc,rfl,htx⟩);have HTB:=hid hto;have hak:=HAK.out;have hs5:W1.heap.size≤w5.heap.size:=HB5.out.size;clear hB0 how hB1 htx hto
      go_wp2_with (first
       | (refine wpList_append_lies _ rfl _ _ 73 rfl W1.heap.size 81 i0 _ 2 32 underlying73 HI.out HZ0.out HZ1.out HZ2.out rfl (by omega) _ A.length _ rfl HOW.out ⟨w5.heap.size,0,none⟩ 1 1 [.int .i64 (k:Int),.slice ta Lp.length tc] rfl rfl (aC rfl rfl) (by simp[Value.oneCell']) (by omega) (by unfold maxLen;omega) (by omega) (by simp;omega) (w5.heap.size+1) (by simp) ?_;intro gg cap w8 hown8 hgrow8 hat8 hlt8))
      go_roundw
      case rel=>
       have hlb:∀y,(Value.slice l0 n0 c0).ownBlock=some y→y<w4.heap.size∧W1.heap.size≤y:=λy e=>⟨by have:=HOB.out y e;have:=HSZ.out;omega,gt HOX.out e⟩;have hf8:Fr (λy=>(Value.slice l0 n0 c0).ownBlock=some y) w5 w8:=((Fr.refl _ w5).alloc _).grown hgrow8 (λy _ e=>e);refine⟨k+1,A++[(k,Lp)],by go_num,by omega,hid ?_,hid ⟨B0++[((k,Lp),.slice ta Lp.length tc)],by rw[List.map_append,HBX.out.1];rfl,?_,?_⟩,hid (by simp;omega),hid (HN.out _ (by simp))⟩
       ·exact HB5.out.trans (hf8.below HB5.out.size (λy hy e=>by have:=(hlb y e).2;omega))
       ·have e1:vh (B0++[((k,Lp),.slice ta Lp.length tc)])=vh B0++[.int .i64 (k:Int),.slice ta Lp.length tc]:=by simp[vh]
        rw[e1,List.length_append];exact hown8
       ·intro x hx
        rcases List.mem_append.1 hx with hx|hx
        ·have hne:B0≠[]:=λe=>by rw[e]at hx;cases hx
         have hlen:A.length=B0.length:=by rw[← HBX.out.1];simp
         have hox:=HOX.out;rw[hlen]at hox;exact⟨vk hox hf8 hne (HBX.out.2 x hx).1,(HBX.out.2 x hx).2⟩
        ·obtain rfl:=List.mem_singleton.1 hx
         exact⟨HTX.out.kept hf8 (λy e e2=>by have:=HTB.out y e;have:=(hlb y e2).1;omega),λy e=>by have:=HTB.out y e;have:=HB4S.out;omega⟩
      case measure=>simp[intOf];omega
    ·have h1:(Lc != 0)=true:=by simpa using hc0
     have h2:(Lc == 0)=false:=by simpa using hc0
     have HF:=hid (show qV LF l=([],Lc)from by rw[HQ.out,HSTEP.out,if_pos hc0,if_pos hc0]);clear HSTEP HQ;go_wp2;rw[HF.out];exact bodyPost_ret (v:=.tuple #[.slice none 0 0,.int .i64 Lc]) (by simp[results,results27,go_sem]) rfl ⟨⟨_,rfl,vj.nil _ _⟩,by rw[HBB.out];exact HBW5.out⟩
  ·have HF:=hid (show qV LF l=(A,0)from by rw[HQ.out,List.drop_of_length_le (by omega)];simp[qU])
   have HOA:=hid (show vj wr B (.slice l0 n0 c0) A from vj.mono HO.out (by have:=HB1.out.size;have:=HBB.out;omega));clear hB0 how hB1 HQ;go_wp2;rw[HF.out];exact bodyPost_ret (v:=.tuple #[.slice l0 n0 c0,.int .i64 0]) (by simp[results,results27,go_sem]) rfl ⟨⟨_,rfl,HOA.out⟩,by rw[HBB.out];exact HBW.out⟩
theorem vx (f:cZ→cZ×Int)(st:cZ):kT [f] st=f st:=by
 unfold kT kT;by_cases h:(f st).2=0
 ·rw[if_neg (by simpa using h)];exact Prod.ext rfl h.symm
 ·rw[if_pos h]
theorem vy (f:cZ→cZ×Int)(r:List (cZ→cZ×Int))(st:cZ):kT (f::r) st=if (f st).2≠0 then f st else kT r (f st).1:=rfl
theorem vz (a r:List (cZ→cZ×Int))(st:cZ):kT (a++r) st=if (kT a st).2≠0 then kT a st else kT r (kT a st).1:=by
 induction a generalizing st with
 | nil=>simp[kT]
 | cons f a ih=>
  rw[List.cons_append,vy,vy];by_cases h:(f st).2=0
  ·have h':¬(f st).2≠0:=by simpa using h
   simp only[if_neg h'];exact ih _
  ·have h':(f st).2≠0:=h
   simp only[if_pos h']
theorem vA (w:World)(p b:Nat)(st:cZ)(h:db w p b st)(n x:ByteArray)(hn:n.size≤100)(hx:x.size≤1048576) :
  Calls prog 83 #[.agg #[.string n,.string x],.pointer (some ⟨p,0,none⟩)] w λe w'=>d8 p b (kT [λs=>eR s n.data.toList x.data.toList,λs=>eD s n.data.toList] st) w e w':=by
 have hp:=h.lt;have hbl:=h.own.lt;have H:=hid h;clear h
 go_enter func83,ntmps83
 go_wp2_with fail
 obtain⟨W1,hW1⟩:∃W1,W1=w.alloc (.cells #[.string n,.string x] 139):=⟨_,rfl⟩;have hb1:Below w.heap.size w W1:=by rw[hW1];exact(Below.refl _ _).alloc (Nat.le_refl _) _
 have c0:W1.heap[w.heap.size]?=some (.cells #[.string n,.string x] 139 (0,0)):=by rw[hW1];exact heap_alloc_new _ _
 have HD1:=hid (H.out.pure hb1);have HB1:=hid hb1;have HC:=hid c0;rw[← hW1];clear hW1 hb1 c0;refine(eU W1 p b st HD1.out n x (by unfold maxLen;omega) (by omega)).mono ?_;rintro e w2 ⟨rfl,hd2,hf2⟩;obtain⟨D,hD⟩:∃D,D=eR st n.data.toList x.data.toList:=⟨_,rfl⟩;have HQ:=hid (show kT [λs=>eR s n.data.toList x.data.toList,λs=>eD s n.data.toList] st=if D.2≠0 then D else eD D.1 n.data.toList from by
  rw[vy,vx,← hD])
 rw[← hD]at hd2 ⊢;obtain⟨s1,e1⟩:=D;dsimp only at hd2 HQ ⊢;have HD2:=hid hd2;have HF2:=hid ((Fr.pure (S:=λk=>k=p∨k=b) HB1.out).trans hf2);have k0:w2.heap[w.heap.size]?=some (.cells #[.string n,.string x] 139 (0,0)):=hf2.heapAt HC.out (by omega);have x0:w2.cell? ⟨w.heap.size,0,none⟩=some (.string n):=(cell_of_row _ _ _ _ _ _ k0).trans rfl;clear hd2 hf2 hD k0;by_cases he:e1=0
 ·subst he
  have HQ2:=hid (show kT [λs=>eR s n.data.toList x.data.toList,λs=>eD s n.data.toList] st=eD s1 n.data.toList from by rw[HQ.out,if_neg (by simp)])
  go_wp2_with fail
  refine(eG w2 p b s1 HD2.out n (by unfold maxLen;omega)).mono ?_;rintro e w3 ⟨rfl,hd3,hf3⟩;have HD3:=hid hd3;have HF3:=hid (HF2.out.trans hf3);clear hd3 hf3;go_wp2;go_ret;rw[HQ2.out];exact⟨rfl,HD3.out,HF3.out⟩
 ·have h1:(e1 != 0)=true:=by simpa using he
  have h2:(e1 == 0)=false:=by simpa using he
  have HQ2:=hid (show kT [λs=>eR s n.data.toList x.data.toList,λs=>eD s n.data.toList] st=(s1,e1)from by rw[HQ.out,if_pos he]);go_wp2;go_ret;rw[HQ2.out];exact⟨rfl,HD2.out,HF2.out⟩
def vB (fs:List (List UInt8×List UInt8)):List Value:=fs.flatMap λf=>[encStr f.1,encStr f.2]
theorem vC (l:List (List UInt8×List UInt8))(i:Nat)(h:i<l.length):(vB l)[i*2]?=some (encStr l[i].1)∧(vB l)[i*2+1]?=some (encStr l[i].2):=by
 induction l generalizing i with
 | nil=>simp at h
 | cons x l ih=>
  rcases i with _|i
  ·simp[vB]
  ·have:=ih i (by simpa using h)
   simp only[vB,List.flatMap_cons,List.getElem_cons_succ]at this ⊢;rw[show(i+1)*2=i*2+1+1 from by omega];simpa using this
abbrev OwnFl (w:World) (base:Nat) (v:Value) (fs:List (List UInt8×List UInt8)):Prop:=w.ownsRow base 139 2 v fs.length (vB fs)
def FlAt (w:World)(v:Value)(fs:List (List UInt8×List UInt8)):Prop:=∃a c,v = .slice a fs.length c∧∀i (h:i<fs.length),∃g,a=some ⟨g,0,none⟩∧w.cell? ⟨g,i*2,none⟩=some (encStr fs[i].1)∧w.cell? ⟨g,i*2+1,none⟩=some (encStr fs[i].2)
theorem FlAt.of_own {w:World}{base:Nat}{v:Value}{fs:List (List UInt8×List UInt8)}(h:OwnFl w base v fs):FlAt w v fs:=by
 rcases h.2 with⟨hv,hn⟩|⟨g,cap,cur,hv,hh⟩
 ·exact⟨none,0,by rw[hv,hn],λi hi=>by omega⟩
 ·subst hv
  refine⟨_,cap,rfl,λi hi=>?_⟩;obtain⟨h1,h2⟩:=vC fs i hi;refine⟨g,rfl,?_⟩;rw[World.ownsRow.cellAt h (i*2) (by omega),World.ownsRow.cellAt h (i*2+1) (by omega)];exact⟨h1,h2⟩
theorem vD {x:List UInt8×List UInt8}{r:List (List UInt8×List UInt8)}{st s1:cZ}(h:kT (qY (x::r)) st=(s1,0)) :
  ∃sa sb,ee st x.1=(sa,0)∧kT [λs=>eR s x.1 x.2,λs=>eD s x.1] sa=(sb,0)∧kT (qY r) sb=(s1,0):=by
 rw[show qY (x::r)=(λst=>ee st x.1)::([λs=>eR s x.1 x.2,λs=>eD s x.1]++qY r)from rfl,vy]at h;obtain⟨sa,ea⟩:∃sa,ee st x.1=sa:=⟨_,rfl⟩
 try dsimp only at h
 rw[ea]at h;obtain⟨sa,ca⟩:=sa
 try dsimp only at h
 by_cases h0:ca=0
 ·subst h0
  rw[if_neg (by simp),vz]at h;obtain⟨sb,eb⟩:∃sb,kT [λs=>eR s x.1 x.2,λs=>eD s x.1] sa=sb:=⟨_,rfl⟩;rw[eb]at h;obtain⟨sb,cb⟩:=sb
  try dsimp only at h
  by_cases h1:cb=0
  ·subst h1
   rw[if_neg (by simp)]at h;exact⟨sa,sb,ea,eb,h⟩
  ·rw[if_pos h1]at h
   exact absurd (congrArg Prod.snd h) h1
 ·rw[if_pos h0]at h
  exact absurd (congrArg Prod.snd h) h0
def vE (l:List (List UInt8)):Prop:=∀p∈l,1≤p.length∧p.length≤4096
theorem vG (s:ByteArray)(h1:1≤s.size)(h2:s.size≤4096)(w:World) :
  Calls prog 192 #[.string s] w λe w'=>e = .returned (.bool false)∧w'=w:=by
 have HS:=hid (show nN (s.size:Int)=16+(s.size:Int)from by unfold nN nL;rw[if_pos (by simp;omega)])
 go_enter func192,ntmps192
 go_wp2_with (go_at_call 105;refine(nO _ _).mono ?_;rintro e w' ⟨rfl,rfl⟩;rw[HS.out])
 go_ret;exact⟨ay (show((16+(s.size:Int)) == 0)=false from by rw[beq_eq_false_iff_ne];omega),rfl⟩
theorem vH (w:World)(v:Value)(l:List (List UInt8))(ht:rZ w v l)(hl:l.length≤1000000)(hp:vE l) :
  Calls prog 179 #[v,.func (.func 192) #[] #[]] w λe w'=>e = .returned (.int .i64 (-1))∧Below w.heap.size w w':=by
 obtain⟨a,c,rfl,hat⟩:=ht;have HA:=hid hat;have HP:=hid hp;clear hat hp
 go_enter func179,ntmps179
 go_wp2
 go_loopw [8] (λi wr=>∃k:Nat,i = .int .i64 k∧k≤l.length∧Hid (Below w.heap.size w wr)) (λi _=>l.length-(intOf i).toNat)
 case atStart=>exact⟨0,rfl,by omega,hid (Below.refl _ _)⟩
 case round=>
  obtain⟨k,rfl,hk,HB⟩:=hrel;by_cases hlt:k<l.length
  ·obtain⟨g,x,rfl,hx,hc⟩:=HA.out k hlt
   have hc1:wr.cell? ⟨g,k,none⟩=some (.string x):=vd hc HB.out;have hpx:=HP.out _ (List.getElem_mem hlt);rw[← hx,ak]at hpx;have HW:=hid (vG x hpx.1 hpx.2 wr);clear hc hx hpx
   go_wp2_with fail
   refine HW.out.mono ?_;rintro e w1 ⟨rfl,rfl⟩;go_wp2;refine⟨⟨k+1,by go_num,by omega,HB⟩,?_⟩;simp[intOf];omega
  ·obtain rfl:k=l.length:=by omega
   go_wp2;go_ret;exact⟨rfl,HB.out⟩
theorem vI (w:World)(v:Value)(l:List (List UInt8))(ht:rZ w v l)(hl:l.length≤1000000)(hp:vE l) :
  Calls prog 191 #[v,.func (.func 192) #[] #[]] w λe w'=>e = .returned (.bool false)∧Below w.heap.size w w':=by
 have HI:=hid (vH w v l ht hl hp);clear ht hp
 go_enter func191,ntmps191
 go_wp2_with fail
 refine HI.out.mono ?_;rintro e w1 ⟨rfl,hb⟩;have HB:=hid hb;clear hb;go_wp2;go_ret;exact⟨rfl,HB.out⟩
theorem vJ (w:World)(q:Nat)(v:Value)(l:List (List UInt8))(ht:rZ w v l)(hl:l.length≤1000000)(hp:vE l)(hq:q+l.length≤1048576) :
  Calls prog 145 #[.int .i64 (q:Int),v] w λe w'=>e = .returned (.int .i64 0)∧Below w.heap.size w w':=by
 have HI:=hid (vI w v l ht hl hp);obtain⟨a,c,rfl,_⟩:=ht;clear hp
 go_enter func145,ntmps145
 go_wp2_with fail
 refine HI.out.mono ?_;rintro e w1 ⟨rfl,hb⟩;have HB:=hid hb;clear hb;go_wp2;go_ret;exact⟨rfl,HB.out⟩
end
end Go.Proofs.YthjjgcfdhkhelaaGreatDoor
