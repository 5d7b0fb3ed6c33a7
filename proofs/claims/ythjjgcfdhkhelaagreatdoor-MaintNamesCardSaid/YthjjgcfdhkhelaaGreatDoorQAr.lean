/- The walk of room. -/
import Derived.Test.YthjjgcfdhkhelaaGreatDoorQAq
set_option maxHeartbeats 2000000
set_option maxRecDepth 100000
open Go.Lib(hid)
open Go.Proofs.Tryz
namespace Go.Proofs.YthjjgcfdhkhelaaGreatDoor
section
open Go.RowKit
abbrev FnV:=FuncId×Array Value×Array Value
theorem si {P:Program}{f:FuncId}{a:Array Value}{w:World}{Q:Ending→World→Prop}(h:Calls P f a w Q):Calls P f (#[]++a) w Q:=by rw[Array.empty_append];exact h
theorem sj {σ:Type}(gs:List (σ→σ×Int))(k:Nat)(h:k<gs.length)(s:σ):kT (gs.drop k) s=if (gs[k] s).2≠0 then gs[k] s else kT (gs.drop (k+1)) (gs[k] s).1:=by
 rw[List.drop_eq_getElem_cons h];rfl
theorem sm {σ:Type}(R:Nat→σ→World→Prop)(F:σ→World→Prop)(fs:List FnV)(gs:List (σ→σ×Int))(b o c:Nat)
  (hl:gs.length=fs.length) (hbig:fs.length≤1000000)
  (hent:∀i (h:i<fs.length),Enters prog fs[i].1)
  (hrow:∀i (h:i<fs.length) s W,R i s W→W.cell? ⟨b,o+i,none⟩=some (.func (.func fs[i].1) fs[i].2.1 fs[i].2.2))
  (hpure:∀i s W W',R i s W→Below W.heap.size W W'→R i s W')
  (hstep:∀i (h:i<fs.length) (h':i<gs.length) s W,R i s W→Calls prog fs[i].1 (fs[i].2.1++fs[i].2.2) W λe w'=>e = .returned (.int .i64 (gs[i] s).2)∧((gs[i] s).2=0→R (i+1) (gs[i] s).1 w')∧((gs[i] s).2≠0→F (gs[i] s).1 w'))
  (w:World) (s:σ) (hR:R 0 s w) :
  Calls prog 41 #[.slice (some ⟨b,o,none⟩) fs.length c] w λe w'=>e = .returned (.int .i64 (kT gs s).2)∧((kT gs s).2=0→R fs.length (kT gs s).1 w')∧((kT gs s).2≠0→F (kT gs s).1 w'):=by
 have HR:=hid hR;clear hR
 go_enter func41,ntmps41
 go_wp2
 go_loopw [8] (λi wr=>∃(k:Nat) (t:σ),i = .int .i64 (k:Int)∧k≤fs.length∧kT gs s=kT (gs.drop k) t∧R k t wr) (λi _=>fs.length-(intOf i).toNat)
 case atStart=>exact⟨0,s,rfl,by omega,rfl,HR.out⟩
 case round=>
  obtain⟨k,t,rfl,hk,hrun,hR⟩:=hrel;have HRUN:=hid hrun;clear hrun;by_cases hlt:k<fs.length
  ·have hc1:=hrow k hlt t _ hR
   have HST:=hid (sj gs k (by omega) t);have he:∀(args:Array Value) (w:World),(callFunc fs[k].1 args).run prog w = .ok (.enter fs[k].1 args) w:=hent k hlt;have HS:=hid (λW' (hb:Below wr.heap.size wr W')=>hstep k hlt (by omega) t W' (hpure k t wr W' hR hb));have HP:=hid hR;clear hR
   generalize fs[k].1=fk at *
   generalize fs[k].2.1=firsts at *
   generalize fs[k].2.2=caps at *
   generalize gs[k]=g at *
   go_wp2_with fail
   refine(HS.out _ ((Below.refl _ _).alloc (Nat.le_refl _) _)).mono ?_;rintro e w2 ⟨rfl,h1,h2⟩;by_cases h0:(g t).2=0
   ·have HR:=hid (h1 h0)
    have HST2:=hid (HST.out.trans (if_neg (by simp[h0])));rw[h0];clear h1 h2 h0;go_wp2
    go_roundw
    case rel=>exact⟨k+1,(g t).1,by go_num,by omega,HRUN.out.trans HST2.out,HR.out⟩
    case measure=>simp[intOf];omega
   ·have HF:=hid (h2 h0)
    have H0:=hid h0;have HST2:=hid (HST.out.trans (if_pos (by simpa using h0)));have hne:((g t).2 == 0)=false:=by simpa using h0
    have hnn:((g t).2 != 0)=true:=by simpa using h0
    clear h1 h2 h0;go_wp2;go_ret;rw[HRUN.out,HST2.out];exact⟨rfl,λh=>absurd h H0.out,λ_=>HF.out⟩
  ·have:k=fs.length:=by omega
   subst this;have HP:=hid hR;clear hR;go_wp2;go_ret;have e:kT gs s=(t,0):=by rw[HRUN.out,List.drop_eq_nil_of_le (by omega)];rfl
   rw[e];exact⟨rfl,λ_=>HP.out,λh=>absurd rfl h⟩
theorem db.ofD {p b:Nat}{w w':World}{v:Value}{q o:Nat}(h:dY p b w w')(hc:w.cell? ⟨q,o,none⟩=some v)(h1:q≠p)(h2:q≠b):w'.cell? ⟨q,o,none⟩=some v:=h.cellAt hc (λk=>k.elim h1 h2)
theorem sz {w w':World}{k o:Nat}(h:w'.heap[k]?=w.heap[k]?){v:Value}(hc:w.cell? ⟨k,o,none⟩=some v):w'.cell? ⟨k,o,none⟩=some v:=by
 rw[← hc];unfold World.cell?;rw[h]
structure sA (p b:Nat) (W0:World) (K:Nat→Prop) (f:FnV) (g:cZ→cZ×Int):Prop where
 ent:Enters prog f.1
 lt:∀k,K k→k<W0.heap.size∧k≠p∧k≠b
 does:∀st W,db W p b st→(∀k,K k→W.heap[k]?=W0.heap[k]?)→Calls prog f.1 (f.2.1++f.2.2) W λe w'=>d8 p b (g st) W e w'
theorem sA.keep {p b:Nat}{W0 W1:World}{K:Nat→Prop}{f:FnV}{g:cZ→cZ×Int}(h:sA p b W0 K f g)(hs:W0.heap.size≤W1.heap.size)(h1:∀k,K k→W1.heap[k]?=W0.heap[k]?):sA p b W1 K f g:=
 ⟨h.ent,λk hk=>⟨Nat.lt_of_lt_of_le (h.lt k hk).1 hs,(h.lt k hk).2⟩,λst W hd h2=>h.does st W hd λk hk=>(h2 k hk).trans (h1 k hk)⟩
theorem sA.pure {p b:Nat}{W0 W1:World}{K:Nat→Prop}{f:FnV}{g:cZ→cZ×Int}(h:sA p b W0 K f g)(hb:Below W0.heap.size W0 W1):sA p b W1 K f g:=h.keep hb.size λk hk=>hb.block k (h.lt k hk).1
theorem sA.wider {p b:Nat}{W0:World}{K K2:Nat→Prop}{f:FnV}{g:cZ→cZ×Int}(h:sA p b W0 K f g)(hk:∀k,K k→K2 k)(h2:∀k,K2 k→k<W0.heap.size∧k≠p∧k≠b):sA p b W0 K2 f g:=⟨h.ent,h2,λst W hd h3=>h.does st W hd λk h=>h3 k (hk k h)⟩
def sC (f:FnV):Value:=.func (.func f.1) f.2.1 f.2.2
theorem sD (w:World)(q r p b:Nat)(st:cZ)(n:ByteArray)(hc:Capt w q r p n)(h:db w p b st)(hn:n.size≤maxLen) :
  Calls prog 95 #[.pointer (some ⟨q,0,none⟩),.pointer (some ⟨r,0,none⟩)] w λe w'=>d8 p b (kU n.data.toList st) w e w':=by
 have H:=hid h;have hx1:=hc.cq;have hx2:=hc.cr;clear hc h
 go_enter func95,ntmps95
 go_wp2_with fail
 refine(eC _ p b st H.out n hn).mono ?_;rintro e w1 ⟨rfl,hd,hf⟩;have HD:=hid hd;have HF:=hid hf;clear hd hf hx1 hx2;by_cases h5:(eh st n.data.toList).2=5
 ·have e1:kU n.data.toList st=((eh st n.data.toList).1,0):=by unfold kU;rw[if_pos h5]
  have E1:=hid e1;rw[h5];clear h5 e1;go_wp2;go_ret;rw[E1.out];exact⟨rfl,HD.out,HF.out⟩
 ·have e1:kU n.data.toList st=((eh st n.data.toList).1,(eh st n.data.toList).2):=by unfold kU;rw[if_neg h5]
  have E1:=hid e1;have hne:((eh st n.data.toList).2 == 5)=false:=by simpa using h5
  clear h5 e1
  generalize (eh st n.data.toList).2=E at *
  go_wp2;go_ret;rw[E1.out];exact⟨rfl,HD.out,HF.out⟩
theorem sE (w:World)(p:Nat)(n:ByteArray)(hn:n.size≤maxLen)(hp:p<w.heap.size)(b:Nat)(hb:b<w.heap.size) :
  Calls prog 36 #[.pointer (some ⟨p,0,none⟩),.string n] w λe w'=>∃f K,e = .returned (.agg #[sC f])∧Below w.heap.size w w'∧sA p b w' K f (kU n.data.toList)∧∀k,K k→w.heap.size≤k:=by
 have hmf:∀(fn:Fn) (first cap:Array Value) (w:World),(Instr.makeFunc fn first cap).run prog w = .ok (.func fn first cap) w:=λ_ _ _ _=>rfl
 go_enter func36,ntmps36
 go_wp2;refine bodyPost_ret (v:=.agg #[.func (.func 95) #[] #[.pointer (some ⟨w.heap.size,0,none⟩),.pointer (some ⟨w.heap.size+1,0,none⟩)]]) (by simp[results,results36,go_sem]) rfl ?_;have hc:=su (p:=p) (n:=n) (Fr.refl (λ_=>False) (((w.alloc (.cells #[.pointer (some ⟨p,0,none⟩)] 31)).alloc (.cells #[.string n] 9)).alloc (.cells #[.func (.func 95) #[] #[.pointer (some ⟨w.heap.size,0,none⟩),.pointer (some ⟨w.heap.size+1,0,none⟩)]] 93)));exact⟨(_,_,_),λk=>k=w.heap.size∨k=w.heap.size+1,rfl,eN _ _ _ _,⟨enters_of func95 (by kernel_rfl) rfl,λk hk=>by simp;omega,λst W hd hf=>si (sD W _ _ p b st n ⟨sz (hf _ (.inl rfl)) hc.1.cq,sz (hf _ (.inr rfl)) hc.1.cr⟩ hd hn)⟩,λk hk=>by omega⟩
theorem sF (w:World)(c q r p b:Nat)(st:cZ)(n:ByteArray)(hc:Capt w q r p n)(h:db w p b st)(hn:n.size≤maxLen)(f:FnV)(g:cZ→cZ×Int)(hs:w.cell? ⟨c,0,none⟩=some (sC f))(K:Nat→Prop)(hf:sA p b w K f g)
  (hqp:q≠p) (hqb:q≠b) (hrp:r≠p) (hrb:r≠b) :
  Calls prog 100 #[.pointer (some ⟨c,0,none⟩),.pointer (some ⟨q,0,none⟩),.pointer (some ⟨r,0,none⟩)] w λe w'=>d8 p b (kV n.data.toList g st) w e w':=by
 have HC:=hid hc;have HS:=hid (hf.does st w h (λ_ _=>rfl));have he:∀(args:Array Value) (w:World),(callFunc f.1 args).run prog w = .ok (.enter f.1 args) w:=hf.ent;unfold sC at hs;clear hc hf h
 generalize f.1=fk at *
 generalize f.2.1=firsts at *
 generalize f.2.2=caps at *
 go_enter func100,ntmps100
 go_wp2_with fail
 refine HS.out.mono ?_;rintro e w1 ⟨rfl,hd,hf⟩;have HD:=hid hd;have HF:=hid hf;by_cases h44:(g st).2=44
 ·have H44:=hid h44
  have hx1:=db.ofD hf HC.out.cq hqp hqb;have hx2:=db.ofD hf HC.out.cr hrp hrb;rw[h44];clear hd hf h44 hs
  go_wp2_with fail
  refine(eC _ p b _ HD.out n hn).mono ?_;rintro e w2 ⟨rfl,hd,hf⟩;have HD2:=hid hd;have HF2:=hid (HF.out.trans hf);clear hd hf hx1 hx2;by_cases h0:(eh (g st).1 n.data.toList).2=0
  ·have e1:=hid (show kV n.data.toList g st=((eh (g st).1 n.data.toList).1,44) by unfold kV;rw[if_pos H44.out,if_neg (by simpa using h0)])
   rw[h0];clear h0;go_wp2;go_ret;rw[e1.out];exact⟨rfl,HD2.out,HF2.out⟩
  ·have e1:=hid (show kV n.data.toList g st=((eh (g st).1 n.data.toList).1,(eh (g st).1 n.data.toList).2) by unfold kV;rw[if_pos H44.out,if_pos (by simpa using h0)])
   have hne:((eh (g st).1 n.data.toList).2 == 0)=false:=by simpa using h0
   have hnn:((eh (g st).1 n.data.toList).2 != 0)=true:=by simpa using h0
   clear h0
   generalize (eh (g st).1 n.data.toList).2=E at *
   go_wp2;go_ret;rw[e1.out];exact⟨rfl,HD2.out,HF2.out⟩
 ·have e1:=hid (show kV n.data.toList g st=((g st).1,(g st).2) by unfold kV;rw[if_neg h44])
  have hne:((g st).2 == 44)=false:=by simpa using h44
  clear hd hf h44 hs
  generalize (g st).2=E at *
  go_wp2;go_ret;rw[e1.out];exact⟨rfl,HD.out,HF.out⟩
theorem sG (w:World)(o1 o2 o3 o4:Obj):Below w.heap.size w ((((w.alloc o1).alloc o2).alloc o3).alloc o4):=(eN w o1 o2 o3).alloc (by simp;omega) _
theorem sH (w:World)(p:Nat)(n:ByteArray)(hn:n.size≤maxLen)(hp:p<w.heap.size)(b:Nat)(hb:b<w.heap.size)(f:FnV)(g:cZ→cZ×Int)(K:Nat→Prop)(hf:sA p b w K f g) :
  Calls prog 39 #[.pointer (some ⟨p,0,none⟩),.string n,.agg #[sC f]] w λe w'=>∃f' K',e = .returned (.agg #[sC f'])∧Below w.heap.size w w'∧sA p b w' K' f' (kV n.data.toList g)∧∀k,K' k→K k∨w.heap.size≤k:=by
 have hmf:∀(fn:Fn) (first cap:Array Value) (w:World),(Instr.makeFunc fn first cap).run prog w = .ok (.func fn first cap) w:=λ_ _ _ _=>rfl;have HF:=hid hf;clear hf
 go_enter func39,ntmps39
 go_wp2;refine bodyPost_ret (v:=.agg #[.func (.func 100) #[] #[.pointer (some ⟨w.heap.size+1+1,0,none⟩),.pointer (some ⟨w.heap.size,0,none⟩),.pointer (some ⟨w.heap.size+1,0,none⟩)]]) (by simp[results,results39,go_sem]) rfl ?_;have hc:=su (p:=p) (n:=n) (v:=sC f) ((Fr.refl (λ_=>False) (((w.alloc (.cells #[.pointer (some ⟨p,0,none⟩)] 31)).alloc (.cells #[.string n] 9)).alloc (.cells #[sC f] 93))).alloc (.cells #[.func (.func 100) #[] #[.pointer (some ⟨w.heap.size+1+1,0,none⟩),.pointer (some ⟨w.heap.size,0,none⟩),.pointer (some ⟨w.heap.size+1,0,none⟩)]] 93));have hbl:=sG w (.cells #[.pointer (some ⟨p,0,none⟩)] 31) (.cells #[.string n] 9) (.cells #[sC f] 93) (.cells #[.func (.func 100) #[] #[.pointer (some ⟨w.heap.size+1+1,0,none⟩),.pointer (some ⟨w.heap.size,0,none⟩),.pointer (some ⟨w.heap.size+1,0,none⟩)]] 93);exact⟨(_,_,_),λk=>K k∨k=w.heap.size∨k=w.heap.size+1∨k=w.heap.size+2,rfl,hbl,⟨enters_of func100 (by kernel_rfl) rfl,λk hk=>by
   rcases hk with hk|hk
   ·exact⟨Nat.lt_of_lt_of_le (HF.out.lt k hk).1 hbl.size,(HF.out.lt k hk).2⟩
   ·simp;omega,
  λst W hd hf=>si (sF W _ _ _ p b st n ⟨sz (hf _ (.inr (.inl rfl))) hc.1.cq,sz (hf _ (.inr (.inr (.inl rfl)))) hc.1.cr⟩ hd hn f g (sz (hf _ (.inr (.inr (.inr rfl)))) hc.2) K ⟨HF.out.ent,λk hk=>⟨by
    have h1:=(HF.out.lt k hk).1;have e1:=(hf k (.inl hk)).trans (hbl.block k h1);rw[Array.getElem?_eq_getElem h1]at e1;exact lt_of_block e1,(HF.out.lt k hk).2⟩,λst W' hd' h2=>HF.out.does st W' hd' λk hk=>((h2 k hk).trans (hf k (.inl hk))).trans (hbl.block k (HF.out.lt k hk).1)⟩ (by omega) (by omega) (by omega) (by omega))⟩,λk hk=>by
   rcases hk with hk|hk
   ·exact .inl hk
   ·exact .inr (by omega)⟩
theorem d8.zero {p b:Nat}{r:cZ×Int}{w w':World}(h:db w' p b r.1)(hf:dY p b w w'):d8 p b r w (.returned (.int .i64 r.2)) w':=⟨rfl,h,hf⟩
theorem sI (w:World)(q r p b:Nat)(st:cZ)(n:ByteArray)(hc:Capt w q r p n)(h:db w p b st)(hn:n.size≤maxLen) :
  Calls prog 97 #[.pointer (some ⟨q,0,none⟩),.pointer (some ⟨r,0,none⟩)] w λe w'=>d8 p b (ee st n.data.toList) w e w':=by
 have H:=hid h;have hx1:=hc.cq;have hx2:=hc.cr;clear hc h
 go_enter func97,ntmps97
 go_wp2_with fail
 refine(ep _ p b st H.out n hn).mono ?_;rintro e w1 ⟨rfl,hd,hf⟩;have HD:=hid hd;have HF:=hid hf;clear hd hf hx1 hx2;go_wp2;go_ret;exact⟨rfl,HD.out,HF.out⟩
theorem sJ (w:World)(q r p b:Nat)(st:cZ)(n:ByteArray)(hc:Capt w q r p n)(h:db w p b st)(hn:n.size≤maxLen) :
  Calls prog 99 #[.pointer (some ⟨q,0,none⟩),.pointer (some ⟨r,0,none⟩)] w λe w'=>d8 p b (eD st n.data.toList) w e w':=by
 have H:=hid h;have hx1:=hc.cq;have hx2:=hc.cr;clear hc h
 go_enter func99,ntmps99
 go_wp2_with fail
 refine(eG _ p b st H.out n hn).mono ?_;rintro e w1 ⟨rfl,hd,hf⟩;have HD:=hid hd;have HF:=hid hf;clear hd hf hx1 hx2;go_wp2;go_ret;exact⟨rfl,HD.out,HF.out⟩
theorem sK (w:World)(q r s p b:Nat)(st:cZ)(n x:ByteArray)(hc:Capt w q r p n)(hs:w.cell? ⟨s,0,none⟩=some (.string x))(h:db w p b st)(hn:n.size≤maxLen)(hx:x.size≤140737488355328) :
  Calls prog 98 #[.pointer (some ⟨q,0,none⟩),.pointer (some ⟨r,0,none⟩),.pointer (some ⟨s,0,none⟩)] w λe w'=>d8 p b (eR st n.data.toList x.data.toList) w e w':=by
 have H:=hid h;have hx1:=hc.cq;have hx2:=hc.cr;clear hc h
 go_enter func98,ntmps98
 go_wp2_with fail
 refine(eU _ p b st H.out n x hn hx).mono ?_;rintro e w1 ⟨rfl,hd,hf⟩;have HD:=hid hd;have HF:=hid hf;clear hd hf hx1 hx2;go_wp2;go_ret;exact⟨rfl,HD.out,HF.out⟩
abbrev sL:=List (FnV×(cZ→cZ×Int))
def sL.Do (p b:Nat)(W0:World)(K:Nat→Prop)(l:sL):Prop:=∀x∈l,sA p b W0 K x.1 x.2
def sL.cells (l:sL):List Value:=l.map λx=>sC x.1
def sL.acts (l:sL):List (cZ→cZ×Int):=l.map (·.2)
theorem sL.Do.pure {p b:Nat}{W0 W1:World}{K:Nat→Prop}{l:sL}(h:l.Do p b W0 K)(hb:Below W0.heap.size W0 W1):l.Do p b W1 K:=λx hx=>(h x hx).pure hb
theorem sL.Do.keep {p b:Nat}{W0 W1:World}{K:Nat→Prop}{l:sL}(h:l.Do p b W0 K)(hs:W0.heap.size≤W1.heap.size)(h1:∀k,K k→W1.heap[k]?=W0.heap[k]?):l.Do p b W1 K:=λx hx=>(h x hx).keep hs h1
theorem sL.Do.wider {p b:Nat}{W0:World}{K K2:Nat→Prop}{l:sL}(h:l.Do p b W0 K)(hk:∀k,K k→K2 k)(h2:∀k,K2 k→k<W0.heap.size∧k≠p∧k≠b):l.Do p b W0 K2:=λx hx=>(h x hx).wider hk h2
theorem sL.Do.append {p b:Nat}{W0:World}{K:Nat→Prop}{l m:sL}(h:l.Do p b W0 K)(h2:m.Do p b W0 K):sL.Do p b W0 K (l++m):=λx hx=>(List.mem_append.1 hx).elim (h x) (h2 x)
def sM (w:World)(v:Value)(l:sL):Prop:=∃g c,v = .slice (some ⟨g,0,none⟩) l.length c∧∀j u,l.cells[j]?=some u→w.cell? ((⟨g,0,none⟩:Addr).add j)=some u
theorem sO (w:World)(p:Nat)(n x:ByteArray)(hn:n.size≤maxLen)(hx:x.size≤140737488355328)(hp:p<w.heap.size)(b:Nat)(hb:b<w.heap.size) :
  Calls prog 38 #[.pointer (some ⟨p,0,none⟩),.string n,.string x] w λe w'=>∃(v:Value) (l:sL) (K:Nat→Prop),e = .returned v∧sM w' v l∧l.length=3∧l.acts=kW n.data.toList x.data.toList∧l.Do p b w' K∧(∀k,K k→w.heap.size≤k∧k<w'.heap.size∧k≠p∧k≠b)∧Below w.heap.size w w':=by
 have hmf:∀(fn:Fn) (first cap:Array Value) (w:World),(Instr.makeFunc fn first cap).run prog w = .ok (.func fn first cap) w:=λ_ _ _ _=>rfl;have HC:=hid (su (p:=p) (n:=n) (v:=.string x) (Fr.refl (λ_=>False) (((w.alloc (.cells #[.pointer (some ⟨p,0,none⟩)] 31)).alloc (.cells #[.string n] 9)).alloc (.cells #[.string x] 9))));have HB:=hid (eN w (.cells #[.pointer (some ⟨p,0,none⟩)] 31) (.cells #[.string n] 9) (.cells #[.string x] 9))
 go_enter func38,ntmps38
 go_wp2_with fail
 refine(sH _ p n hn (by simp;omega) b (by simp;omega) (98,#[],#[.pointer (some ⟨w.heap.size,0,none⟩),.pointer (some ⟨w.heap.size+1,0,none⟩),.pointer (some ⟨w.heap.size+1+1,0,none⟩)]) (λst=>eR st n.data.toList x.data.toList) (λk=>k=w.heap.size∨k=w.heap.size+1∨k=w.heap.size+2) ⟨enters_of func98 (by kernel_rfl) rfl,λk hk=>by simp;omega,λst W hd hf=>si (sK W _ _ _ p b st n x ⟨sz (hf _ (.inl rfl)) HC.out.1.cq,sz (hf _ (.inr (.inl rfl))) HC.out.1.cr⟩ (sz (hf _ (.inr (.inr rfl))) HC.out.2) hd hn hx)⟩).mono ?_;rintro e w2 ⟨f',K',rfl,hb2,hdo,hK'⟩;have HD:=hid hdo;have hs2:=hb2.size;simp at hs2;have HC2:=hid (HC.out.1.fr (Fr.pure (S:=λ_=>False) hb2) (λh=>h) (λh=>h));have HB2:=hid (HB.out.trans (hb2.mono (by simp;omega)));clear hdo hb2;unfold sC;go_wp2;go_ret;have hbn:=(Below.refl w2.heap.size w2).alloc (Nat.le_refl _) (.cells #[.func (.func 97) #[] #[.pointer (some ⟨w.heap.size,0,none⟩),.pointer (some ⟨w.heap.size+1,0,none⟩)],.func (.func f'.1) f'.2.1 f'.2.2,.func (.func 99) #[] #[.pointer (some ⟨w.heap.size,0,none⟩),.pointer (some ⟨w.heap.size+1,0,none⟩)]] 93);have hsn:(w2.alloc (.cells #[.func (.func 97) #[] #[.pointer (some ⟨w.heap.size,0,none⟩),.pointer (some ⟨w.heap.size+1,0,none⟩)],.func (.func f'.1) f'.2.1 f'.2.2,.func (.func 99) #[] #[.pointer (some ⟨w.heap.size,0,none⟩),.pointer (some ⟨w.heap.size+1,0,none⟩)]] 93)).heap.size=w2.heap.size+1:=by simp
 have hlt:∀k,(K' k∨k=w.heap.size∨k=w.heap.size+1)→w.heap.size≤k∧k<(w2.alloc (.cells #[.func (.func 97) #[] #[.pointer (some ⟨w.heap.size,0,none⟩),.pointer (some ⟨w.heap.size+1,0,none⟩)],.func (.func f'.1) f'.2.1 f'.2.2,.func (.func 99) #[] #[.pointer (some ⟨w.heap.size,0,none⟩),.pointer (some ⟨w.heap.size+1,0,none⟩)]] 93)).heap.size∧k≠p∧k≠b:=by
  intro k hk;rw[hsn]
  rcases hk with hk|hk
  ·have h1:=hK' k hk
   have h2:=HD.out.lt k hk;simp at h1;omega
  ·omega
 refine⟨_,[((97,#[],#[.pointer (some ⟨w.heap.size,0,none⟩),.pointer (some ⟨w.heap.size+1,0,none⟩)]),λst=>ee st n.data.toList),(f',kV n.data.toList (λst=>eR st n.data.toList x.data.toList)),((99,#[],#[.pointer (some ⟨w.heap.size,0,none⟩),.pointer (some ⟨w.heap.size+1,0,none⟩)]),λst=>eD st n.data.toList)],λk=>K' k∨k=w.heap.size∨k=w.heap.size+1,rfl,⟨_,_,rfl,aC rfl rfl⟩,rfl,rfl,?_,hlt,HB2.out.trans (hbn.mono (by omega))⟩;have hcap:=HC2.out.fr (Fr.pure (S:=λ_=>False) hbn) (λh=>h) (λh=>h);intro y hy;simp only[List.mem_cons,List.not_mem_nil,or_false]at hy
 rcases hy with rfl|rfl|rfl
 ·exact⟨enters_of func97 (by kernel_rfl) rfl,λk hk=>(hlt k hk).2,λst W hd hf=>si (sI W _ _ p b st n ⟨sz (hf _ (.inr (.inl rfl))) hcap.cq,sz (hf _ (.inr (.inr rfl))) hcap.cr⟩ hd hn)⟩
 ·exact(HD.out.pure hbn).wider (λk hk=>.inl hk) λk hk=>(hlt k hk).2
 ·exact⟨enters_of func99 (by kernel_rfl) rfl,λk hk=>(hlt k hk).2,λst W hd hf=>si (sJ W _ _ p b st n ⟨sz (hf _ (.inr (.inl rfl))) hcap.cq,sz (hf _ (.inr (.inr rfl))) hcap.cr⟩ hd hn)⟩
theorem sP (w:World)(q c p b:Nat)(st:cZ)(g:Int)(sv:Value)(l:bI)(hq:w.cell? ⟨q,0,none⟩=some (.pointer (some ⟨p,0,none⟩)))(h0:w.cell? ⟨c,0,none⟩=some (.int .i64 g))(h1:w.cell? ⟨c,1,none⟩=some sv)(hs:bJ w sv l)(hl:l.length≤1099511627776)(h:db w p b st) :
  Calls prog 40 #[.pointer (some ⟨q,0,none⟩),.pointer (some ⟨c,0,none⟩)] w λe w'=>d8 p b (jt st g l) w e w':=by
 have H:=hid h;have HS:=hid hs;obtain⟨a,cc,rfl⟩:=hs.shape;clear hs h
 go_enter func40,ntmps40
 go_wp2_with fail
 refine(jT _ p b st H.out g _ l HS.out hl).mono ?_;rintro e w1 ⟨rfl,hd,hf⟩;have HD:=hid hd;have HF:=hid hf;clear hd hf hq h0 h1;go_wp2;go_ret;exact⟨rfl,HD.out,HF.out⟩
theorem bJ.same {w w':World}{sv:Value}{l:bI}(h:bJ w sv l)(hs:∀k,sv.ownBlock=some k→w'.heap[k]?=w.heap[k]?):bJ w' sv l:=by
 obtain⟨a,c,rfl,h|⟨b,o,rfl,h⟩⟩:=h
 ·exact⟨a,c,rfl,.inl h⟩
 ·refine⟨_,c,rfl,.inr ⟨b,o,rfl,λi hi=>?_⟩⟩
  obtain⟨h1,h2⟩:=h i hi;exact⟨sz (hs b rfl) h1,sz (hs b rfl) h2⟩
theorem sQ (w:World)(q c p b:Nat)(g:Int)(sv:Value)(l:bI)(hq:w.cell? ⟨q,0,none⟩=some (.pointer (some ⟨p,0,none⟩)))(h0:w.cell? ⟨c,0,none⟩=some (.int .i64 g))(h1:w.cell? ⟨c,1,none⟩=some sv)(hs:bJ w sv l)(hl:l.length≤1099511627776)
  (K:Nat→Prop) (hK:∀k,K k→k<w.heap.size∧k≠p∧k≠b) (kq:K q) (kc:K c) (ksv:∀k,sv.ownBlock=some k→K k) :
  sA p b w K (40,#[],#[.pointer (some ⟨q,0,none⟩),.pointer (some ⟨c,0,none⟩)]) (λst=>jt st g l):=
 ⟨enters_of func40 (by kernel_rfl) rfl,hK,λst W hd hf=>si (sP W q c p b st g sv l (sz (hf _ kq) hq) (sz (hf _ kc) h0) (sz (hf _ kc) h1) (hs.same λk hk=>hf k (ksv k hk)) hl hd)⟩
def sR (w:World)(base:Nat)(v:Value)(l:sL):Prop:=w.ownsRow base 93 1 v l.length l.cells
theorem sL.cells_append (l m:sL):(sL.cells (l++m))=l.cells++m.cells:=List.map_append
theorem sL.acts_append (l m:sL):(sL.acts (l++m))=l.acts++m.acts:=List.map_append
theorem sR.at {w:World}{base:Nat}{v:Value}{l:sL}(h:sR w base v l)(h0:0<l.length):∃g c,v = .slice (some ⟨g,0,none⟩) l.length c∧base≤g∧∀i (hi:i<l.length),w.cell? ⟨g,0+i,none⟩=some (sC l[i].1):=by
 obtain⟨_,⟨_,h1⟩|⟨g,c,cur,rfl,hg,hb,hc1,_,hc3,hc4⟩⟩:=h
 ·omega
 ·refine⟨g,c,rfl,hg,λi hi=>?_⟩
  rw[Nat.zero_add,cell_of_row _ _ _ _ _ _ hb];have hh:(cur.toList.take (l.length*1))[i]?=l.cells[i]?:=by rw[hc4]
  unfold sL.cells at hh;rw[List.getElem?_take_of_lt (by omega),List.getElem?_map,List.getElem?_eq_getElem hi]at hh;simpa using hh
theorem sS (w:World)(p b base:Nat)(st:cZ)(v:Value)(l:sL)(h0:0<l.length)(hl:l.length≤1000000)(ho:sR w base v l)(K:Nat→Prop)(hdo:l.Do p b w K)(hd:db w p b st)(hp:p<base)(hb:b<base) :
  Calls prog 41 #[v] w λe w'=>d8 p b (kT l.acts st) w e w':=by
 obtain⟨g,c,rfl,hg,hrow⟩:=ho.at h0;have hlen:(l.map (·.1)).length=l.length:=List.length_map ..;have key:=sm (σ:=cZ) (λ_ s W=>db W p b s∧dY p b w W) (λs W=>db W p b s∧dY p b w W) (l.map (·.1)) l.acts g 0 c (by simp[sL.acts]) (by omega)
  (λi h=>by rw[List.getElem_map];exact(hdo _ (List.getElem_mem _)).ent)
  (λi h s W hR=>by rw[List.getElem_map];exact db.ofD hR.2 (hrow i (by omega)) (by omega) (by omega))
  (λi s W W' hR hb=>⟨hR.1.pure hb,hR.2.trans (Fr.pure hb)⟩)
  (λi h h' s W hR=>by
    have hx:=(hdo _ (List.getElem_mem (by omega:i<l.length))).does s W hR.1 (λk hk=>hR.2.block k ((hdo _ (List.getElem_mem (by omega:i<l.length))).lt k hk).1 (λe=>e.elim ((hdo _ (List.getElem_mem (by omega:i<l.length))).lt k hk).2.1 ((hdo _ (List.getElem_mem (by omega:i<l.length))).lt k hk).2.2));have e1:(sL.acts l)[i]=(l[i]'(by omega)).2:=by simp[sL.acts]
    rw[List.getElem_map,e1];exact hx.mono λe w' ⟨a1,a2,a3⟩=>⟨a1,λ_=>⟨a2,hR.2.trans a3⟩,λ_=>⟨a2,hR.2.trans a3⟩⟩)
  w st ⟨hd,Fr.refl _ _⟩
 rw[hlen]at key;refine key.mono ?_;rintro e w' ⟨rfl,k1,k2⟩;by_cases hz:(kT l.acts st).2=0
 ·exact⟨rfl,(k1 hz).1,(k1 hz).2⟩
 ·exact⟨rfl,(k2 hz).1,(k2 hz).2⟩
theorem sT {w:World}{base n size y:Nat}{e:TypeId}{v:Value}{xs:List Value}(h:w.ownsRow base e size v n xs)(hy:v.ownBlock=some y):y<w.heap.size:=by
 obtain⟨_,⟨rfl,_⟩|⟨g,cp,cur,rfl,_,hb,_⟩⟩:=h
 ·cases hy
 ·have e2:=Option.some.inj hy
  simp at e2;rw[← e2];exact lt_of_block hb
theorem sU {w w':World}{row:Option Nat}(h:w.grownBy w' row):Fr (λk=>row=some k) w w':=(Fr.refl _ _).grown h (λ_ _ e=>e)
structure sV (p b:Nat) (w:World) (base:Nat) (v:Value) (ss:sL) (K:Nat→Prop):Prop where
 own:sR w base v ss
 acts:ss.Do p b w K
 lt:∀k,K k→k<w.heap.size∧k≠p∧k≠b
 apart:∀k,K k→v.ownBlock≠some k
theorem sV.nil (p b:Nat)(w:World)(base:Nat):sV p b w base (.slice none 0 0) [] (λ_=>False):=⟨World.ownsRow_nil _ _ _ _,λx hx=>by simp at hx,λ_ h=>h.elim,λ_ h=>h.elim⟩
theorem sV.pure {p b:Nat}{w w':World}{base:Nat}{v:Value}{ss:sL}{K:Nat→Prop}(h:sV p b w base v ss K)(hb:Below w.heap.size w w'):sV p b w' base v ss K:=
 ⟨(Fr.pure (S:=λ_=>False) hb).ownsRow h.own (λ_ _ h=>h),h.acts.pure hb,λk hk=>⟨Nat.lt_of_lt_of_le (h.lt k hk).1 hb.size,(h.lt k hk).2⟩,h.apart⟩
theorem sV.more {p b:Nat}{w w':World}{base:Nat}{v:Value}{ss l:sL}{K K2:Nat→Prop}(h:sV p b w base v ss K)(hl:l.Do p b w K2)(hk:∀k,K2 k→(k<w.heap.size∧k≠p∧k≠b)∧v.ownBlock≠some k){g n cap:Nat}
  (hg:w.grownBy w' v.ownBlock) (hown:w'.ownsRow base 93 1 (.slice (some ⟨g,0,none⟩) n cap) n (ss.cells++l.cells)) (hn:n=ss.length+l.length) (hat:v.ownBlock=some g∨g=w.heap.size) :
  sV p b w' base (.slice (some ⟨g,0,none⟩) n cap) (ss++l) (λk=>K k∨K2 k):=by
 have hboth:∀k,(K k∨K2 k)→(k<w.heap.size∧k≠p∧k≠b)∧v.ownBlock≠some k:=λk hk'=>hk'.elim (λhk'=>⟨h.lt k hk',h.apart k hk'⟩) (hk k);have hs:=hg.size;have hlt:∀k,(K k∨K2 k)→k<w'.heap.size∧k≠p∧k≠b:=λk hk'=>⟨Nat.lt_of_lt_of_le (hboth k hk').1.1 hs,(hboth k hk').1.2⟩;refine⟨?_,?_,hlt,?_⟩
 ·unfold sR
  rw[sL.cells_append,List.length_append,← hn];exact hown
 ·refine sL.Do.append ((h.acts.keep hs λk hk'=>hg.block k (h.lt k hk').1 λe=>h.apart k hk' e.symm).wider (λk hk'=>.inl hk') hlt) ((hl.keep hs λk hk'=>hg.block k (hk k hk').1.1 λe=>(hk k hk').2 e.symm).wider (λk hk'=>.inr hk') hlt)
 ·intro k hk' e
  have e2:g=k:=Option.some.inj e;subst e2
  rcases hat with h8|h8
  ·exact(hboth _ hk').2 h8
  ·have:=(hboth _ hk').1.1;omega
theorem tB (w:World)(base:Nat)(v:Value)(l:List (List UInt8))(h:rX w base v l)(x:ByteArray)(hl:l.length≤1000000) :
  Calls prog 35 #[v,.string x] w λe w'=>e = .returned (.bool (l.contains x.data.toList))∧w'=w:=by
 by_cases h0:l.length=0
 ·have hn:l=[]:=List.eq_nil_of_length_eq_zero h0
  subst hn;obtain⟨_,⟨rfl,_⟩|⟨g,c,cur,rfl,_⟩⟩:=h
  ·exact(Tryz.slices_Contains_string_empty none 0 x w).mono λe w' h=>h
  ·exact(Tryz.slices_Contains_string_empty _ c x w).mono λe w' h=>h
 ·obtain⟨_,⟨_,h1⟩|⟨g,c,cur,rfl,hg,hb,hc1,_,hc3,hc4⟩⟩:=h
  ·omega
  ·have key:=Tryz.slices_Contains_string g 0 l.length c (l.map λt=>(⟨t.toArray⟩:ByteArray)) x w (by simp) (by omega) (λj hj=>by
    rw[Nat.zero_add,cell_of_row _ _ _ _ _ _ hb];have hj':j<l.length:=by simpa using hj
    have hh:(cur.toList.take (l.length*1))[j]?=(l.map encStr)[j]?:=by rw[hc4]
    rw[List.getElem?_take_of_lt (by omega),List.getElem?_map,List.getElem?_eq_getElem hj']at hh;rw[List.getD_eq_getElem?_getD,List.getElem?_map,List.getElem?_eq_getElem hj'];simpa[encStr]using hh)
   refine key.mono ?_;rintro e w' ⟨rfl,rfl⟩;refine⟨ay ?_,rfl⟩;rw[Bool.eq_iff_iff,Lib.containsS_iff,List.take_of_length_le (by simp),List.contains_iff_mem,List.mem_map];constructor
   ·rintro⟨t,ht,e⟩
    rw[← e];simpa using ht
   ·intro ht
    exact⟨_,ht,am (by simp)⟩
def kR.ev (l:kR):Nat:=l.cfg.ev.toNat
def sW (x:Nat×Value):Value:=.pointer (some ⟨x.1,0,none⟩)
structure LgC (w:World) (S:Nat→Prop) (g p:Nat) (l:kR) (sv iv:Value) (xs:List (Nat×Value)):Prop where
 cell:w.heap[g]?=some (.cells #[.pointer (some ⟨p,0,none⟩),.int .i64 l.cfg.ss,.int .i64 l.cfg.ev,.int .u8 l.cfg.v,.int .i64 l.gen,sv,iv] 104 (0,0))
 segs:bJ w sv l.segs
 sfar:∀k,sv.ownBlock=some k→¬S k
 row:w.ownsRow 0 99 1 iv l.ix.length (xs.map sW)
 len:xs.length=l.ix.length
 ixs:∀i (h:i<xs.length) (h':i<l.ix.length),oR w xs[i].1 l.ev l.ix[i].1 l.ix[i].next l.ix[i].good xs[i].2 (iV l.ev l.ix[i].1 l.ix[i].2)
 sg:S g
 siv:∀k,iv.ownBlock=some k→S k
 sx:∀x∈xs,S x.1∧∀k,x.2.ownBlock=some k→S k
 apart:xs.Pairwise λx y=>x.1≠y.1∧(∀k,x.2.ownBlock=some k→y.2.ownBlock≠some k)
 lt:∀k,S k→k<w.heap.size
def sX (w:World)(F:Nat→Prop)(g p:Nat)(l:kR):Prop:=∃sv iv xs S,LgC w S g p l sv iv xs∧(∀k,S k→F k)∧(∀k,sv.ownBlock=some k→F k)∧∀k,F k→k<w.heap.size
theorem LgC.gl {w:World}{S:Nat→Prop}{g p:Nat}{l:kR}{sv iv:Value}{xs:List (Nat×Value)}(h:LgC w S g p l sv iv xs):g<w.heap.size:=lt_of_block h.cell
theorem LgC.kept {T S:Nat→Prop}{w w':World}{g p:Nat}{l:kR}{sv iv:Value}{xs:List (Nat×Value)}(h:LgC w S g p l sv iv xs)(hf:Fr T w w')(h1:∀k,S k→¬T k)(h2:∀k,sv.ownBlock=some k→¬T k):LgC w' S g p l sv iv xs where
 cell:=hf.heapAt h.cell (h1 _ h.sg)
 segs:=h.segs.kept hf h2
 sfar:=h.sfar
 row:=hf.ownsRow h.row λk hk=>h1 k (h.siv k hk)
 len:=h.len
 ixs:=λi hi h'=>(h.ixs i hi h').kept hf (h1 _ (h.sx _ (List.getElem_mem hi)).1) λk hk=>h1 k ((h.sx _ (List.getElem_mem hi)).2 k hk)
 sg:=h.sg
 siv:=h.siv
 sx:=h.sx
 apart:=h.apart
 lt:=λk hk=>Nat.lt_of_lt_of_le (h.lt k hk) hf.size
theorem LgC.pure {S:Nat→Prop}{w w':World}{g p:Nat}{l:kR}{sv iv:Value}{xs:List (Nat×Value)}(h:LgC w S g p l sv iv xs)(hb:Below w.heap.size w w'):LgC w' S g p l sv iv xs:=h.kept (Fr.pure (S:=λ_=>False) hb) (λ_ _ hf=>hf) (λ_ _ hf=>hf)
theorem sX.kept {T F:Nat→Prop}{w w':World}{g p:Nat}{l:kR}(h:sX w F g p l)(hf:Fr T w w')(ht:∀k,F k→¬T k):sX w' F g p l:=by
 obtain⟨sv,iv,xs,S,h,h1,h2,h3⟩:=h;exact⟨sv,iv,xs,S,h.kept hf (λk hk=>ht k (h1 k hk)) (λk hk=>ht k (h2 k hk)),h1,h2,λk hk=>Nat.lt_of_lt_of_le (h3 k hk) hf.size⟩
theorem sX.pure {F:Nat→Prop}{w w':World}{g p:Nat}{l:kR}(h:sX w F g p l)(hb:Below w.heap.size w w'):sX w' F g p l:=h.kept (Fr.pure (S:=λ_=>False) hb) (λ_ _ hf=>hf)
theorem LgC.cs {w:World}{S:Nat→Prop}{g p:Nat}{l:kR}{sv iv:Value}{xs:List (Nat×Value)}(h:LgC w S g p l sv iv xs) :
  w.cell? ⟨g,0,none⟩=some (.pointer (some ⟨p,0,none⟩))∧w.cell? ⟨g,1,none⟩=some (.int .i64 l.cfg.ss)∧w.cell? ⟨g,2,none⟩=some (.int .i64 l.cfg.ev)∧w.cell? ⟨g,3,none⟩=some (.int .u8 l.cfg.v)∧w.cell? ⟨g,4,none⟩=some (.int .i64 l.gen)∧w.cell? ⟨g,5,none⟩=some sv∧w.cell? ⟨g,6,none⟩=some iv:=
 ⟨(cell_of_row _ _ _ _ _ _ h.cell).trans rfl,(cell_of_row _ _ _ _ _ _ h.cell).trans rfl,(cell_of_row _ _ _ _ _ _ h.cell).trans rfl,(cell_of_row _ _ _ _ _ _ h.cell).trans rfl,(cell_of_row _ _ _ _ _ _ h.cell).trans rfl,(cell_of_row _ _ _ _ _ _ h.cell).trans rfl,(cell_of_row _ _ _ _ _ _ h.cell).trans rfl⟩
theorem LgC.ptr {w:World}{S:Nat→Prop}{g p:Nat}{l:kR}{sv iv:Value}{xs:List (Nat×Value)}(h:LgC w S g p l sv iv xs)(i:Nat)(hi:i<xs.length):∃rb c,iv = .slice (some ⟨rb,0,none⟩) xs.length c∧w.cell? ⟨rb,i,none⟩=some (sW xs[i]):=by
 obtain⟨_,⟨_,h0⟩|⟨rb,c,cur,e1,_,hb,hc1,_,hc3,hc4⟩⟩:=h.row
 ·have:=h.len;omega
 ·rw[← h.len]at e1 hc4 hc1
  refine⟨rb,c,e1,?_⟩;rw[cell_of_row _ _ _ _ _ _ hb];have hh:(cur.toList.take (xs.length*1))[i]?=(xs.map sW)[i]?:=by rw[hc4]
  rw[List.getElem?_take_of_lt (by omega),List.getElem?_map,List.getElem?_eq_getElem hi]at hh;simpa using hh
theorem sY (w:World)(S:Nat→Prop)(g p:Nat)(l:kR)(sv iv:Value)(xs:List (Nat×Value))(h:LgC w S g p l sv iv xs)(h0:0<xs.length)(hb:xs.length≤1000000) :
  Calls prog 46 #[.pointer (some ⟨g,0,none⟩)] w λe w'=>e = .returned (sW xs[xs.length-1])∧Below w.heap.size w w':=by
 obtain⟨rb,c,rfl,hc⟩:=h.ptr (xs.length-1) (by omega);obtain⟨c0,c1,c2,c3,c4,c5,c6⟩:=h.cs;have hcast:((xs.length:Nat):Int)-1=((xs.length-1:Nat):Int):=by omega
 generalize xs[xs.length-1]=x at *
 have hk:xs.length-1<xs.length:=by omega
 generalize xs.length-1=k at *
 generalize xs.length=n at *
 clear h c0 c1 c2 c3 c4 c5 h0;unfold sW at *
 go_enter func46,ntmps46
 go_wp2
 go_quiet (fail)
 go_wp2;go_ret;exact⟨rfl,⟨rfl,rfl,rfl,Nat.le_refl _,λ_ _=>rfl⟩⟩
theorem LgC.last {w:World}{S:Nat→Prop}{g p:Nat}{l:kR}{sv iv:Value}{xs:List (Nat×Value)}(h:LgC w S g p l sv iv xs)(h0:0<xs.length) :
  oR w xs[xs.length-1].1 l.ev l.lastIx.1 l.next l.lastIx.good xs[xs.length-1].2 (iV l.ev l.lastIx.1 l.lastIx.2):=by
 have hl:=h.len;have:=h.ixs (xs.length-1) (by omega) (by omega);have e:l.lastIx=l.ix[xs.length-1]'(by omega):=by
  unfold kR.lastIx;rw[List.getLast?_eq_getElem?,show l.ix.length-1=xs.length-1 from by omega,List.getElem?_eq_getElem (by omega)];rfl
 unfold kR.next;rw[e];exact this
theorem sZ (w:World)(S:Nat→Prop)(g p:Nat)(l:kR)(h:sX w S g p l)(h0:0<l.ix.length)(hb:l.ix.length≤1000000) :
  Calls prog 20 #[.pointer (some ⟨g,0,none⟩)] w λe w'=>e = .returned (.int .i64 (l.next:Int))∧Below w.heap.size w w':=by
 obtain⟨sv,iv,xs,S1,h,_,_,_⟩:=h;have hl:=h.len;have HX:=hid (h.last (by omega));have HO:=hid (sY w S1 g p l sv iv xs h (by omega) (by omega));clear h
 generalize xs[xs.length-1]=x at *
 clear hl
 go_enter func20,ntmps20
 go_wp2_with fail
 refine HO.out.mono ?_;rintro e w1 ⟨rfl,hb1⟩;have HB:=hid hb1;unfold sW;clear hb1
 go_wp2_with fail
 refine(oS _ _ _ _ _ _ _ _ (HX.out.pure HB.out)).mono ?_;rintro e w2 ⟨rfl,rfl⟩;go_wp2;go_ret;exact⟨rfl,HB.out⟩
theorem s9 (w:World)(S:Nat→Prop)(g p:Nat)(l:kR)(h:sX w S g p l)(h0:0<l.segs.length) :
  Calls prog 19 #[.pointer (some ⟨g,0,none⟩)] w λe w'=>e = .returned (.int .i64 l.first)∧w=w':=by
 obtain⟨sv,iv,xs,S1,h,_,_,_⟩:=h;obtain⟨a,c,rfl⟩:=h.segs.shape;obtain⟨b,o,rfl,k1,k2,_⟩:=h.segs.at 0 h0;obtain⟨c0,c1,c2,c3,c4,c5,c6⟩:=h.cs;have e1:l.segs[0].2=l.first:=by unfold kR.first;rw[List.head?_eq_getElem?,List.getElem?_eq_getElem h0];rfl
 rw[e1]at k2
 generalize l.first=F at *
 clear h k1 e1 c0 c1 c2 c3 c4 c6;simp only[Nat.zero_mul,Nat.add_zero]at k2
 generalize l.segs.length=n at *
 go_enter func19,ntmps19
 go_wp2;go_ret;exact⟨rfl,rfl⟩
theorem tb {l:kR}(h0:0<l.segs.length):b9 (l.segs[l.segs.length-1]'(by omega)).1 (l.segs[l.segs.length-1]'(by omega)).2=l.name:=by
 unfold kR.name;rw[List.getLast?_eq_getElem?,List.getElem?_eq_getElem (by omega)];rfl
theorem td (w:World)(hp:Pow w)(S:Nat→Prop)(g p:Nat)(l:kR)(h:sX w S g p l)(h0:0<l.segs.length)(hb:l.segs.length≤1000000) :
  Calls prog 52 #[.pointer (some ⟨g,0,none⟩)] w λe w'=>(∃r:ByteArray,r.data.toList=l.name∧e = .returned (.string r))∧Below w.heap.size w w':=by
 obtain⟨sv,iv,xs,S1,h,_,_,_⟩:=h;obtain⟨a,c,rfl⟩:=h.segs.shape;obtain⟨b,o,rfl,k1,k2,hbl⟩:=h.segs.at (l.segs.length-1) (by omega);obtain⟨c0,c1,c2,c3,c4,c5,c6⟩:=h.cs;have hgl:=h.gl;have HN:=hid (tb h0);have HP:=hid hp;have hcast:((l.segs.length:Nat):Int)-1=((l.segs.length-1:Nat):Int):=by omega
 have hk:l.segs.length-1<l.segs.length:=by omega
 generalize l.segs[l.segs.length-1].1=G at *
 generalize l.segs[l.segs.length-1].2=F at *
 generalize l.segs.length-1=k at *
 generalize l.segs.length=n at *
 generalize l.name=N at *
 clear h c0 c1 c2 c3 c4 c6 h0 hp
 go_enter func52,ntmps52
 go_wp2
 go_region
 go_wp2_with fail
 have hal:Below w.heap.size w (w.alloc (.cells #[.int .i64 G,.int .i64 F] 48)).drew:=((Below.refl _ _).alloc (Nat.le_refl _) _).trans ⟨rfl,rfl,rfl,Nat.le_refl _,λ_ _=>rfl⟩;refine(cf _ (bS hal HP.out) G F).mono ?_;rintro e w2 ⟨⟨r,hr,rfl⟩,hb2⟩;have HR:=hid hr;have HB:=hid (hal.trans (hb2.mono hal.size));clear hr hb2 hal;go_wp2;go_ret;exact⟨⟨r,HR.out.trans HN.out,rfl⟩,HB.out⟩
end
section
open Go.RowKit Go.Sort
theorem tg (w:World)(n lo hi:Int) :
  Calls prog 91 #[.int .i64 n,.int .i64 lo,.int .i64 hi] w λe w'=>e = .returned (.bool (decide (lo≤n) && decide (n≤hi)))∧w=w':=by
 by_cases h:lo≤n
 ·have hd:decide (lo≤n)=true:=by simpa using h
  have HD:=hid hd;clear h
  go_enter func91,ntmps91
  go_wp2;go_ret;exact⟨ay (by rw[HD.out];rfl),rfl⟩
 ·have hd:decide (lo≤n)=false:=by simpa using h
  have HD:=hid hd;clear h
  go_enter func91,ntmps91
  go_wp2;go_ret;exact⟨ay (by rw[HD.out];rfl),rfl⟩
theorem th (w:World)(c:Cfg)(h0:0≤c.v)(h1:c.v≤255) :
  Calls prog 33 #[.agg #[.int .i64 c.ss,.int .i64 c.ev,.int .u8 c.v]] w λe w'=>e = .returned (.bool (kN c))∧Below w.heap.size w w':=by
 have hw:IntKind.i64.wrap c.v=c.v:=IntWalk.i64_in _ (by omega);have hb:=(Below.refl w.heap.size w).alloc (Nat.le_refl _) (.cells #[.int .i64 c.ss,.int .i64 c.ev,.int .u8 c.v] 24);have HB:=hid hb;obtain⟨ss,ev,v⟩:=c;cases ha:(decide (64≤ss) && decide (ss≤65536))
 ·have HA:=hid ha
  clear ha hb
  go_enter func33,ntmps33
  go_wp2_with (go_at_call 91;refine(tg _ _ _ _).mono ?_;rintro e w' ⟨rfl,rfl⟩;rw[HA.out])
  go_ret;exact⟨ay (by unfold kN;rw[HA.out];rfl),HB.out⟩
 ·have HA:=hid ha
  clear ha hb;cases hc:(decide (1≤ev) && decide (ev≤64))
  ·have HC:=hid hc
   clear hc
   go_enter func33,ntmps33
   go_wp2_with (go_at_call 91;refine(tg _ _ _ _).mono ?_;rintro e w' ⟨rfl,rfl⟩;first|rw[HA.out]|rw[HC.out])
   go_ret;exact⟨ay (by unfold kN;rw[HA.out,HC.out];rfl),HB.out⟩
  ·have HC:=hid hc
   clear hc;cases hv:(decide (1≤v) && decide (v≤3))
   all_goals
    have HV:=hid hv;clear hv
    go_enter func33,ntmps33
    go_wp2_with (go_at_call 91;refine(tg _ _ _ _).mono ?_;rintro e w' ⟨rfl,rfl⟩;first|rw[HA.out]|rw[HC.out]|rw[HV.out])
    go_ret;exact⟨ay (by unfold kN;rw[HA.out,HC.out,HV.out];rfl),HB.out⟩
theorem LgC.nep {w:World}{S:Nat→Prop}{g p q b:Nat}{st:cZ}{l:kR}{sv iv:Value}{xs:List (Nat×Value)}(h:LgC w S g p l sv iv xs)(hd:db w q b st):g≠q:=by
 intro e;have h1:=h.cell;rw[e,hd.cell]at h1;simp at h1
theorem LgC.neb {w:World}{S:Nat→Prop}{g p q b:Nat}{st:cZ}{l:kR}{sv iv:Value}{xs:List (Nat×Value)}(h:LgC w S g p l sv iv xs)(hd:db w q b st):g≠b:=by
 have h1:=h.cell;exact hd.off (q:=g) (o:=0) ((cell_of_row _ _ _ _ _ _ h1).trans rfl)
theorem ti (w:World)(hp:Pow w)(S:Nat→Prop)(g p b:Nat)(st:cZ)(l:kR)(h:sX w S g p l)(hd:db w p b st)(h0:0<l.segs.length)(hb:l.segs.length≤1000000)(hln:l.name.length≤100) :
  Calls prog 55 #[.pointer (some ⟨g,0,none⟩)] w λe w'=>d8 p b (ln st l) w e w':=by
 have HN:=hid (λW (hb:Below w.heap.size w W)=>td W (bS hb hp) S g p l (h.pure hb) h0 (by omega));obtain⟨sv,iv,xs,S1,h,_,_,_⟩:=h;obtain⟨c0,_,_,_,_,_,_⟩:=h.cs;have hgl:=h.gl;have hgp:=h.nep hd;have hgb:=h.neb hd;have HD:=hid hd;have HLN:=hid hln;clear h hd hp h0 hb hln
 go_enter func55,ntmps55
 go_wp2_with fail
 go_region_held3 (λw'=>w'.cell? ⟨g,0,none⟩=some (.pointer (some ⟨p,0,none⟩))) (first|exact c0|exact c9|exact c8|go_keep) (first
  | (go_at_call 52;refine(HN.out _ (by first|exact Below.refl _ _|exact(Below.refl _ _).drew)).mono ?_;rintro e w1 ⟨⟨r,hr,rfl⟩,hb1⟩;have HR:=hid hr;have HRL:=hid (show r.size≤maxLen by have:=ao hr;have:=HLN.out;unfold maxLen;omega);have HB1:=hid ((show Below w.heap.size w _ by first|exact Below.refl _ _|exact(Below.refl _ _).drew).trans hb1);have c9:=(hb1.cell (p:=⟨g,0,none⟩) hgl).trans c0;clear hr hb1)
  | (go_at_call 65;refine(eG _ p b st (HD.out.pure HB1.out) r HRL.out).mono ?_;rintro e w2 ⟨rfl,hd2,hf2⟩;have HD2:=hid hd2;have HF2:=hid (And.intro hf2 HR.out);have c8:=db.ofD hf2 c9 hgp hgb;clear hd2 hf2))
 go_wp2;go_ret;unfold ln;rw[← HF2.out.2];exact⟨rfl,HD2.out,(Fr.pure HB1.out).trans HF2.out.1⟩
theorem tj (w:World)(n:Int)(h0:1≤n)(h1:n≤64):Calls prog 107 #[.int .i64 n] w λe w'=>e = .returned (.int .i64 (18+16*n))∧Below w.heap.size w w':=by
 have e1:cw n=18+16*n:=by unfold cw;rw[if_neg (by omega)]
 refine(cx w n (by omega) (by omega)).mono ?_;rintro e w' ⟨rfl,rfl⟩;rw[e1];exact⟨rfl,Below.refl _ _⟩
theorem tl (w:World)(S:Nat→Prop)(g p b:Nat)(st:cZ)(l:kR)(h:sX w S g p l)(hd:db w p b st)(h0:0<l.segs.length)(hb:l.segs.length≤64)(x:ByteArray)(hx0:1≤x.size)(hx:x.size≤4096)(turn:Bool) :
  Calls prog 48 #[.pointer (some ⟨g,0,none⟩),.string x,.bool turn] w λe w'=>e = .returned (.int .i64 (lm st l x.size turn))∧Below w.heap.size w w':=by
 obtain⟨sv,iv,xs,S1,h,_,_,_⟩:=h;obtain⟨a,c,rfl⟩:=h.segs.shape;obtain⟨c0,_,_,_,_,c5,_⟩:=h.cs;have hgl:=h.gl;have H:=hid h;have HD:=hid hd;have hul:=dc hd.ok.fs;have hfew:=hd.ok.fs.few;have hcap0:=hd.ok.cap0;have hcap1:=hd.ok.cap1;have hfit:=hd.ok.fits;have HS:=hid (show nN (x.size:Int)=16+(x.size:Int) by unfold nN nL;rw[if_pos (by simp;omega)]);clear h hd
 go_enter func48,ntmps48
 go_wp2_with fail
 refine(lJ _ p b st HD.out).mono ?_;rintro e w1 ⟨rfl,hb1⟩;have HB:=hid hb1;have d5:=(hb1.cell (p:=⟨g,5,none⟩) hgl).trans c5;clear hb1 c5 c0;cases hdk:st.dark
 ·have HDK:=hid hdk
  have hroom:lI st = .tuple #[.int .i64 (st.cap-(cX st.fs:Int)),.int .i64 (64-(st.fs.length:Int)),.int .i64 0]:=by unfold lI;rw[hdk];rfl
  rw[hroom];clear hdk hroom
  go_wp2_with fail
  refine(nO _ _).mono ?_;rintro e w2 ⟨rfl,rfl⟩;rw[HS.out];cases turn
  ·go_wp2
   all_goals (go_ret;exact⟨aa (by unfold lm ll;rw[HDK.out];simp only[Bool.false_eq_true,if_false];split<;>first|rfl|(exfalso;omega)),HB.out⟩)
  ·go_wp2_with fail
   have hm:(l.segs.length:Int)≤64:=by omega
   have v1:IntKind.i64.wrap (16+(x.size:Int)+16)=16+(x.size:Int)+16:=IntWalk.i64_in _ (by omega);have v2:IntKind.i64.wrap (16+(x.size:Int)+16+34)=16+(x.size:Int)+16+34:=IntWalk.i64_in _ (by omega);have v3:IntKind.i64.wrap (16*(l.segs.length:Int))=16*(l.segs.length:Int):=IntWalk.i64_in _ (by omega);have v4:IntKind.i64.wrap (16+(x.size:Int)+16+34+16*(l.segs.length:Int))=16+(x.size:Int)+16+34+16*(l.segs.length:Int):=IntWalk.i64_in _ (by omega);have V:=hid (And.intro hm (And.intro hul (And.intro hfew (And.intro hcap0 (And.intro hcap1 (And.intro hfit (And.intro hx0 hx)))))));clear hul hfew hcap0 hcap1 hfit hx0 hx hb h0 hm
   generalize hmm:l.segs.length=m at *
   have HMM:=hid hmm;clear hmm;have q1:∀n:Int,(n=1∨n=2)→∀d os,Calls prog 107 #[.int .i64 n] (grow (redrawn w1 d) os) λe w''=>e = .returned (.int .i64 (18+16*n))∧∃p:Regrown,w''=grow (redrawn w1 p.d) p.os:=λn hn d os=>Calls.regrown_of (tj _ n (by omega) (by omega));have k5:=cell_regrown d5;refine wp_region_quiet_below (by kernel_rfl) (by kernel_rfl) ?_
   repeat (go_big_quiet_step (exact q1 _ (by first|exact .inl rfl|exact .inr rfl) _ _))
   refine wpQuiet_nil ?_;intro _ hw';obtain⟨⟨dq,osq⟩,hw''⟩:=hw';subst hw'';have HB3:=hid (HB.out.trans ((below_regrown w1 dq osq).mono HB.out.size))
   generalize grow (redrawn w1 dq) osq=w3 at *
   obtain⟨u1,u2,u3,u4,u5,u6,u7,u8⟩:=V.out;clear q1 k5;go_wp2
   all_goals (go_ret;exact⟨aa (by unfold lm ll;rw[HDK.out,HMM.out];simp only[Bool.false_eq_true,if_false,if_true];split<;>first|rfl|(exfalso;omega)),HB3.out⟩)
 ·have HDK:=hid hdk
  have hroom:lI st = .tuple #[.int .i64 0,.int .i64 0,.int .i64 45]:=by unfold lI;rw[hdk];rfl
  rw[hroom];clear hdk hroom;go_wp2;go_ret;exact⟨aa (by unfold lm;rw[HDK.out];rfl),HB.out⟩
end
end Go.Proofs.YthjjgcfdhkhelaaGreatDoor
