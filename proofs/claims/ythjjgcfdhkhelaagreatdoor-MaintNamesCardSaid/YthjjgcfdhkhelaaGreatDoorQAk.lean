/- The walk of wire.Reader's Short. -/
import Derived.Test.YthjjgcfdhkhelaaGreatDoorQAf
import Derived.Test.YthjjgcfdhkhelaaGreatDoorQAi
import Derived.Lib.EndianBits
set_option maxHeartbeats 2000000
set_option maxRecDepth 100000
open Go.Lib(hid)
open Go.Proofs.Tryz
namespace Go.Proofs.YthjjgcfdhkhelaaGreatDoor
section
open Go.RowKit
theorem Tryz.infoStr:(prog.info? 9).map (λi=>(i.zero,i.size,i.bytes))=some (some (.string ⟨#[]⟩),1,16):=by kernel_rfl
theorem gt {w:World}{base:Nat}{e:TypeId}{size:Nat}{v:Value}{n:Nat}{xs:List Value}(h:w.ownsRow base e size v n xs){g:Nat}(hg:v.ownBlock=some g):base≤g:=by
 obtain⟨_,⟨rfl,_⟩|⟨g',cap,cur,rfl,hb,_⟩⟩:=h
 ·cases hg
 ·cases hg;exact hb
end
section
def iT (ev n:Nat):Nat:=(n+ev-1) / ev
def iU (ev q:Nat)(ps:List (List UInt8))(j:Nat):Int×Int:=(((q+j*ev:Nat):Int),((16+(iC q (ps.take (j*ev))).length:Nat):Int))
def iV (ev q:Nat)(ps:List (List UInt8)):bI:=(List.range (iT ev ps.length)).map (iU ev q ps)
theorem iW (ev q:Nat)(ps:List (List UInt8)):(iV ev q ps).length=iT ev ps.length:=by simp[iV]
theorem iX (ev q:Nat)(ps:List (List UInt8))(j:Nat)(h:j<(iV ev q ps).length):(iV ev q ps)[j]=iU ev q ps j:=by simp[iV]
theorem iY {ev:Nat}(h:0<ev):iT ev 0=0:=by unfold iT;exact Nat.div_eq_of_lt (by omega)
theorem iZ {ev:Nat}(h:0<ev)(n:Nat):iT ev (n+1)=if n % ev=0 then iT ev n+1 else iT ev n:=by
 unfold iT;have hd:=Nat.div_add_mod n ev;have hr:=Nat.mod_lt n h
 generalize n / ev=a at *
 generalize n % ev=r at *
 have e1:n+1+ev-1=(r+ev*a)+ev:=by omega
 have e2:n+ev-1=(r+ev-1)+ev*a:=by omega
 rw[e1,e2,Nat.add_div_right _ h,Nat.add_mul_div_left _ _ h,Nat.add_mul_div_left _ _ h,Nat.div_eq_of_lt hr]
 split
 ·rename_i h0
  rw[h0,Nat.div_eq_of_lt (by omega:0+ev-1<ev)]
 ·rename_i h0
  rw[show r+ev-1=(r-1)+ev from by omega,Nat.add_div_right _ h,Nat.div_eq_of_lt (by omega:r-1<ev)];omega
theorem i6 {ev:Nat}(h:0<ev){n:Nat}(h0:n % ev=0):iT ev n*ev=n:=by
 unfold iT;obtain⟨a,rfl⟩:=Nat.dvd_of_mod_eq_zero h0;rw[show ev*a+ev-1=(ev-1)+ev*a from by omega,Nat.add_mul_div_left _ _ h,Nat.div_eq_of_lt (by omega:ev-1<ev),Nat.zero_add,Nat.mul_comm]
theorem i7 {ev:Nat}(h:0<ev){n j:Nat}(hj:j<iT ev n):j*ev<n:=by
 unfold iT at hj;have h1:j+1≤(n+ev-1) / ev:=hj;rw[Nat.le_div_iff_mul_le h,Nat.add_mul]at h1;omega
theorem i8 {ev:Nat}(h:0<ev){n j:Nat}(hj:j*ev<n):j<iT ev n:=by
 unfold iT;have:j+1≤(n+ev-1) / ev:=by rw[Nat.le_div_iff_mul_le h,Nat.add_mul];omega
 omega
theorem ja {ev:Nat}(h:0<ev)(q:Nat)(ps:List (List UInt8))(p:List UInt8) :
  iV ev q (ps++[p])=iV ev q ps++(if ps.length % ev=0 then [(((q+ps.length:Nat):Int),((16+(iC q ps).length:Nat):Int))] else []):=by
 have hk:∀j,j*ev≤ps.length→iU ev q (ps++[p]) j=iU ev q ps j:=λj hj=>by unfold iU;rw[List.take_append_of_le_length hj]
 have hs:=iZ h ps.length;unfold iV;rw[List.length_append,List.length_singleton,hs];have hm:(List.range (iT ev ps.length)).map (iU ev q (ps++[p]))=(List.range (iT ev ps.length)).map (iU ev q ps):=
  List.map_congr_left λj hj=>hk j (Nat.le_of_lt (i7 h (List.mem_range.1 hj)))
 split
 ·rename_i h0
  rw[List.range_succ,List.map_append,hm,List.map_singleton];congr 2;have e:=i6 h h0;rw[hk _ (by omega)];unfold iU;rw[e,List.take_length]
 ·rename_i h0
  rw[hm,List.append_nil]
theorem jb {ev:Nat}(h:0<ev)(q:Nat):iV ev q []=[]:=by unfold iV;rw[List.length_nil,iY h];rfl
theorem jc {ev:Nat}(h:0<ev){ps:List (List UInt8)}{k:Nat}(hk:k<ps.length):k / ev<iT ev ps.length:=i8 h (Nat.lt_of_le_of_lt (Nat.div_mul_le_self k ev) hk)
theorem jd {ev:Nat}(h:0<ev)(k:Nat):iT ev k=k / ev+(if k % ev=0 then 0 else 1):=by
 unfold iT;have hd:=Nat.div_add_mod k ev;have hr:=Nat.mod_lt k h
 generalize k / ev=a at *
 generalize k % ev=r at *
 rw[show k+ev-1=(r+ev-1)+ev*a from by omega,Nat.add_mul_div_left _ _ h]
 split
 ·rename_i h0
  rw[h0,Nat.div_eq_of_lt (by omega:0+ev-1<ev)];omega
 ·rw[show r+ev-1=(r-1)+ev from by omega,Nat.add_div_right _ h,Nat.div_eq_of_lt (by omega:r-1<ev)]
  omega
theorem je {ev:Nat}(h:0<ev)(q:Nat)(ps:List (List UInt8))(j k:Nat):(iU ev q ps j).1<((q+k:Nat):Int)↔j<iT ev k:=by
 unfold iU;constructor
 ·intro hj
  have hj:((q+j*ev:Nat):Int)<((q+k:Nat):Int):=hj;exact i8 h (by omega)
 ·intro hj;have:=i7 h hj;show((q+j*ev:Nat):Int)<((q+k:Nat):Int);omega
end
section
open Go.RowKit
def qC (n:Nat):List UInt8:=if h:n<128 then [UInt8.ofNat n] else UInt8.ofNat (n % 128+128)::qC (n / 128)
termination_by n
decreasing_by omega
theorem qD {n:Nat}(h:n<128):qC n=[UInt8.ofNat n]:=by rw[qC,dif_pos h]
theorem qE {n:Nat}(h:¬n<128):qC n=UInt8.ofNat (n % 128+128)::qC (n / 128):=by rw[qC,dif_neg h]
theorem qF (k n:Nat)(h:n<128 ^ (k+1)):(qC n).length≤k+1:=by
 induction k generalizing n with
 | zero=>rw[qD (by omega)];simp
 | succ k ih=>
  by_cases hs:n<128
  ·rw[qD hs];simp
  ·rw[qE hs,List.length_cons]
   have:=ih (n / 128) (by rw[Nat.pow_succ]at h;omega);omega
theorem qG (n:Nat)(h:n<18446744073709551616):(qC n).length≤10:=qF 9 n (Nat.lt_of_lt_of_le h (by decide))
theorem qH (n:Nat)(h:n<256):be 1 n=[UInt8.ofNat n]:=by
 show[]++[UInt8.ofNat (n % 256)]=_;rw[Nat.mod_eq_of_lt h];rfl
theorem qI (m:Nat):bits .or .u8 ((m:Int) % 256) 128=((m % 128+128:Nat):Int):=by
 have h:∀r:Fin 256,bits .or .u8 ((r.val:Nat):Int) 128=((r.val % 128+128:Nat):Int):=by decide +kernel
 have:=h ⟨m % 256,Nat.mod_lt _ (by decide)⟩;simp only at this;rw[show((m:Int) % 256)=((m % 256:Nat):Int)from by omega,this];congr 2;omega
theorem qJ {m:Nat}{L0 L1:List UInt8}{n:Nat}(h:L1++qC m=L0++qC n)(hm:¬m<128):(L1++[UInt8.ofNat (m % 128+128)])++qC (m / 128)=L0++qC n:=by
 rw[← h,qE hm];simp
end
section
section
variable {P:Program} {ops:Array Oper} {Q:Exit→Act→World→Prop} {md:Region.Mode} {S:World→Prop} {z:Nat}
def oV (P:Program)(md:Region.Mode)(ops:Array Oper)(Q:Exit→Act→World→Prop)(S:World→Prop)(z:Nat):Nat→Array Bool→Act→World→Prop
 | 0,listed,a,w=>Region.ready md ops listed=[]∧Q .normal a w
 | fuel+1,listed,a,w=>
  (Region.ready md ops listed=[]→Q .normal a w) ∧
  ∀i∈Region.ready md ops listed,wpOp P ops Q i (λa' w'=>(i≠z→S w')∧oV P md ops Q S z fuel (listed.setIfInBounds i true) a' w') a w
theorem oW:∀(fuel:Nat) (listed:Array Bool) (a:Act) (w:World),oV P md ops Q S z fuel listed a w→wpAny P md ops Q fuel listed a w
 | 0,_,_,_,h=>h
 | fuel+1,_,_,_,h=>⟨h.1,λi hi=>wpOp_mono (λa' w' h'=>oW fuel _ a' w' h'.2) (h.2 i hi)⟩
theorem oX {i:Nat}{oi:Oper}{v:Value}(hi:ops[i]?=some oi)(hsel:∀(j:Nat) (o:Oper) cs b,ops[j]?=some o→o.op ≠ .select cs b)
  (hQ:∀c a w,Q (.panic c) (a.put oi.dst v) w→Q (.panic c) a w) {oz:Oper} (hz:ops[z]?=some oz) (hzi:∃e∈oz.after,Region.binds md e=true∧e.on=i) :
  ∀(fuel:Nat) (listed:Array Bool) (a:Act) (w:World),
   (∀j oj,ops[j]?=some oj→j≠i→listed.getD j true=false→(∀e∈oj.after,Region.binds md e=true→e.on≠i)→oi.apart ops oj=true) →
   i∈Region.ready md ops listed→YieldsIf P ops S oi v a→S w →
   oV P md ops Q S z fuel (listed.setIfInBounds i true) (a.put oi.dst v) w→oV P md ops Q S z (fuel+1) listed a w:=by
 intro fuel
 induction fuel with
 | zero=>
  intro listed a w _ hr hy hS H;refine⟨λh=>(by rw[h]at hr;cases hr),λj hj=>?_⟩;by_cases hji:j=i
  ·subst hji;exact hy.wpOp hi hS ⟨λ_=>hS,H⟩
  ·have:=ready_mono hj hji
   rw[H.1]at this;cases this
 | succ fuel ih=>
  intro listed a w hfree hr hy hS H;refine⟨λh=>(by rw[h]at hr;cases hr),λj hj=>?_⟩;by_cases hji:j=i
  ·subst hji;exact hy.wpOp hi hS ⟨λ_=>hS,H⟩
  ·have h1:=H.2 j (ready_mono hj hji)
   obtain⟨hjun,oj,hoj,hall⟩:=mem_ready.1 hj;have hnot:∀e∈oj.after,Region.binds md e=true→e.on≠i:=λe he hb heq=>by
    have h1:=hall e he hb;have h0:=(mem_ready.1 hr).1;rw[heq]at h1
    rcases Nat.lt_or_ge i listed.size with h'|h'
    ·simp[h']at h0 h1;rw[h0]at h1;cases h1
    ·simp[Array.getElem?_eq_none h']at h1
   have hjz:j≠z:=λe=>by
    subst e;rw[hz]at hoj;cases hoj;obtain⟨e,he,hb,heq⟩:=hzi;exact hnot e he hb heq
   have h2:=wpOp_putIf hoj (hfree j oj hoj hji hjun hnot) (λcs b=>hsel i oi cs b hi) (λcs b=>hsel j oj cs b hoj) hQ hy h1;have hfree':∀k ok,ops[k]?=some ok→k≠i→(listed.setIfInBounds j true).getD k true=false →
     (∀e∈ok.after,Region.binds md e=true→e.on≠i)→oi.apart ops ok=true:=λk ok hk hki hun hno=>by
    refine hfree k ok hk hki ?_ hno;by_cases hjk:j=k
    ·subst hjk;exact hjun
    ·rw[getD_set_ne true hjk]at hun;exact hun
   refine wpOp_mono (λa' w' h3=>⟨h3.2.1,ih (listed.setIfInBounds j true) a' w' hfree' (ready_mono hr (Ne.symm hji)) h3.1 (h3.2.1 hjz) ?_⟩) h2;rw[Array.setIfInBounds_comm _ _ hji];exact h3.2.2
def oY (md:Region.Mode)(ops:Array Oper)(z i:Nat):Bool:=((ops[z]?).map λo=>o.after.any λe=>Region.binds md e && e.on == i).getD false
theorem oZ {i:Nat}{oi:Oper}{v:Value}{fuel:Nat}{listed:Array Bool}{a:Act}{w:World}(hi:ops[i]?=some oi)
  (hs:Region.noSelect ops=true) (hf:Region.free md ops listed i=true) (hr:(Region.ready md ops listed).contains i=true) (hw:oY md ops z i=true)
  (hQ:∀c a w,Q (.panic c) (a.put oi.dst v) w→Q (.panic c) a w) (hy:YieldsIf P ops S oi v a) (hS:S w)
  (h:oV P md ops Q S z fuel (listed.setIfInBounds i true) (a.put oi.dst v) w):oV P md ops Q S z (fuel+1) listed a w:=by
 unfold oY at hw;cases hz:ops[z]? with
 | none=>rw[hz]at hw;cases hw
 | some oz=>
  rw[hz]at hw;simp only[Option.map_some,Option.getD_some]at hw;obtain⟨e,he,hb⟩:=Array.any_eq_true'.1 hw;rw[Bool.and_eq_true,beq_iff_eq]at hb;exact oX hi (Region.noSelect_spec hs) hQ hz ⟨e,he,hb.1,hb.2⟩ fuel listed a w (Region.free_spec hi hf) (by simpa using hr) hy hS h
theorem pd {i:Nat}{o:Oper}{fuel:Nat}{listed:Array Bool}{a:Act}{w:World}(ho:ops[i]?=some o)(hr:Region.ready md ops listed=[i])
  (h:∀K':Act→World→Prop,Shut (∀a w,(i≠z→S w)→oV P md ops Q S z fuel (listed.setIfInBounds i true) a w→K' a w)→if Region.wanted o (yielded ops a.tmps)=true then Oper.wp P o a w K' Q else K' (a.put o.dst undef) w) :
  oV P md ops Q S z (fuel+1) listed a w:=
 ⟨λh0=>(by rw[hr]at h0;cases h0),λj hj=>by
  rw[hr,List.mem_singleton]at hj;subst hj;exact wpOp_step ho (λK' hK=>h K' (λa w hS hW=>hK a w ⟨hS,hW⟩))⟩
theorem pf {listed:Array Bool}{a:Act}{w:World}(hr:Region.ready md ops listed=[])(h:Q .normal a w) :
  ∀fuel,oV P md ops Q S z fuel listed a w
 | 0=>⟨hr,h⟩
 | _+1=>⟨λ_=>h,by rw[hr];simp⟩
theorem pg {id:Nat}{a:Act}{w:World}(z:Nat)(hm:P.follows .mixedOrders=true)
  (h:oV P .any ops Q S z ops.size (Array.replicate ops.size false) a w.drew):(Code.region id ops true).wp P Q a w:=
 wp_region_any hm (oW _ _ _ _ h)
end
end
section
open Go.RowKit
def ur (s:List UInt8)(most frm:Nat):Nat→Nat→Nat→bc→Nat×bc
 | 0,_,_,st=>(0,st)
 | f+1,k,n,st=>
  if (st.take s 1).2.1=false then (0,⟨frm,8,frm⟩)
  else if (k=9∧1<val (st.take s 1).1)∨(0<k∧val (st.take s 1).1=0) then (0,⟨frm,4,frm⟩)
  else if val (st.take s 1).1<128 then (if most<n+val (st.take s 1).1*128 ^ k then (0,⟨frm,40,frm⟩) else (n+val (st.take s 1).1*128 ^ k,(st.take s 1).2.2))
  else ur s most frm f (k+1) (n+(val (st.take s 1).1-128)*128 ^ k) (st.take s 1).2.2
def bc.short (st:bc)(s:List UInt8)(most:Nat):Nat×bc:=if st.e≠0 then (0,st) else ur s most st.at_ 10 0 0 st
theorem us {st:bc}{s r:List UInt8}{b:UInt8}(he:st.e=0)(hs:s.drop st.at_=b::r):st.take s 1=([b],true,⟨st.at_+1,st.e,st.tow⟩):=by
 have hl:1≤s.length-st.at_:=by have:=congrArg List.length hs;rw[List.length_drop,List.length_cons]at this;omega
 unfold bc.take;rw[if_neg (λh=>h he),if_neg (by omega),hs];rfl
theorem ut {s r:List UInt8}{b:UInt8}{a:Nat}(hs:s.drop a=b::r):s.drop (a+1)=r:=by
 rw[← List.drop_drop,hs];rfl
theorem uu (b:UInt8):val [b]=b.toNat:=by simp[val]
theorem uv {n k:Nat}(h:n*128 ^ k<18446744073709551616)(hk:k=9):n<2:=by
 subst hk;rw[show(128:Nat) ^ 9=9223372036854775808 from by decide]at h;omega
theorem uw {s:List UInt8}{most frm:Nat}:∀(f k n0 n:Nat) (st:bc) (rest:List UInt8),st.e=0→k+f=10→n*128 ^ k<18446744073709551616→n<128 ^ f→(0<k→0<n)→n0+n*128 ^ k≤most→s.drop st.at_=qC n++rest →
  ur s most frm f k n0 st=(n0+n*128 ^ k,⟨st.at_+(qC n).length,st.e,st.tow⟩)
 | 0,k,n0,n,st,rest,he,hk,h9,hn,h0,hm,hs=>by
  have:n=0:=by simpa using hn
  have:=h0 (by omega);omega
 | f+1,k,n0,n,st,rest,he,hk,h9,hn,h0,hm,hs=>by
  by_cases hsm:n<128
  ·rw[qD hsm]at hs ⊢
   have ht:=us he (show s.drop st.at_=UInt8.ofNat n::rest from hs);have hb:(UInt8.ofNat n).toNat=n:=by simp;omega
   rw[ur,ht];simp only[uu,hb];rw[if_neg (by decide),if_neg (by
    rintro(⟨h1,h2⟩|⟨h1,h2⟩)
    ·have:=uv h9 h1;omega
    ·have:=h0 h1;omega),if_pos hsm,if_neg (by omega)]
   rfl
  ·rw[qE hsm]at hs ⊢
   have ht:=us he (show s.drop st.at_=UInt8.ofNat (n % 128+128)::(qC (n / 128)++rest)from hs);have hb:(UInt8.ofNat (n % 128+128)).toNat=n % 128+128:=by simp;omega
   have hk8:k≠9:=λe=>by have:=uv h9 e;omega
   have hpow:n*128 ^ k=n % 128*128 ^ k+n / 128*128 ^ (k+1):=by
    have e:=Nat.div_add_mod n 128
    conv=>lhs;rw[← e]
    rw[Nat.pow_succ,Nat.add_mul];rw[show 128*(n / 128)*128 ^ k=n / 128*(128 ^ k*128)from by rw[Nat.mul_comm 128,Nat.mul_assoc,Nat.mul_comm 128]];omega
   rw[ur,ht];simp only[uu,hb];rw[if_neg (by decide),if_neg (by
    rintro(⟨h1,h2⟩|⟨h1,h2⟩)
    ·exact hk8 h1
    ·omega),if_neg (by omega),Nat.add_sub_cancel]
   rw[uw f (k+1) (n0+n % 128*128 ^ k) (n / 128) ⟨st.at_+1,st.e,st.tow⟩ rest he (by omega) (by rw[hpow]at h9;omega) (by rw[Nat.pow_succ]at hn;omega) (λ_=>by omega) (by rw[hpow]at hm;omega) (ut hs)];rw[hpow,List.length_cons];simp only[Prod.mk.injEq,bc.mk.injEq];exact⟨by omega,by omega,trivial,trivial⟩
theorem ux {s:List UInt8}{most n:Nat}{st:bc}{rest:List UInt8}(he:st.e=0)(hn:n<18446744073709551616)(hm:n≤most)(hs:s.drop st.at_=qC n++rest) :
  st.short s most=(n,⟨st.at_+(qC n).length,st.e,st.tow⟩):=by
 unfold bc.short;rw[if_neg (λh=>h he),uw 10 0 0 n st rest he rfl (by simpa using hn) (Nat.lt_of_lt_of_le hn (by decide)) (λh=>absurd h (Nat.lt_irrefl _)) (by simpa using hm) hs];simp
theorem uy (w:World)(p:Nat)(s:ByteArray)(st:bc)(h:bd w p s st)(n most frm:Nat)(hf:frm≤s.size) :
  Calls prog 400 #[.pointer (some ⟨p,0,none⟩),.int .u64 (n:Int),.int .u64 (most:Int),.int .i64 (frm:Int)] w λe w'=>e = .returned (.int .u64 (((if most<n then (0,⟨frm,40,frm⟩) else (n,st)):Nat×bc).1:Int))∧bd w' p s ((if most<n then (0,⟨frm,40,frm⟩) else (n,st)):Nat×bc).2∧Fr (λk=>k=p) w w':=by
 have H:=hid h;clear h;by_cases hm:most<n
 ·rw[if_pos hm]
  go_enter func400,ntmps400
  go_wp2_with fail
  refine(bh _ p s st H.out 40 frm hf).mono ?_;rintro e w1 ⟨rfl,h1,hf1⟩;have H1:=hid h1;clear h1;go_wp2;go_ret;exact⟨rfl,H1.out,hf1⟩
 ·rw[if_neg hm]
  go_enter func400,ntmps400
  go_wp2;go_ret;exact⟨rfl,H.out,Fr.refl _ _⟩
theorem un (n:Nat)(p:Nat)(v:Value)(L:List UInt8)(w:World)(hn:n<256)(h:aN w p v L)(hL:L.length≤1073741824) :
  Calls prog 211 #[.pointer (some ⟨p,0,none⟩),.int .u8 (n:Int)] w λe w'=>e = .returned (.tuple #[])∧∃v',aO p w w' v v' (L++[UInt8.ofNat n]):=by
 have H:=hid h;have HB:=hid (qH n hn);clear h
 go_enter func211,ntmps211
 go_wp2_with fail
 refine(aS n p v L _ H.out hL).mono ?_;rintro e w1 ⟨rfl,h1⟩;have H1:=hid h1;clear h1;go_wp2
 go_end0
 exact⟨rfl,by have:=H1.out;rw[HB.out]at this;exact this⟩
theorem uo (n:Nat)(p:Nat)(v:Value)(L:List UInt8)(w:World)(hn:n<18446744073709551616)(h:aN w p v L)(hL:L.length+10≤1073741824) :
  Calls prog 212 #[.pointer (some ⟨p,0,none⟩),.int .u64 (n:Int)] w λe w'=>e = .returned (.tuple #[])∧∃v',aO p w w' v v' (L++qC n):=by
 have H:=hid h;have hl10:=qG n hn;clear h
 go_enter func212,ntmps212
 go_wp2
 go_loopw [1] (λx wr=>∃(m:Nat) (v1:Value) (L1:List UInt8),x = .int .u64 (m:Int)∧m<18446744073709551616∧Hid (aO p w wr v v1 L1)∧Hid (L1++qC m=L++qC n)) (λx _=>(intOf x).toNat)
 case atStart=>exact⟨n,v,L,rfl,hn,hid ⟨H.out,Fr.refl _ _,aA.refl _ _⟩,hid rfl⟩
 case round=>
  obtain⟨m,v1,L1,rfl,hm,HW,HE⟩:=hrel;have hl1:L1.length≤1073741824:=by
   have:=congrArg List.length HE.out;rw[List.length_append,List.length_append]at this;omega
  by_cases hs:m<128
  ·have HF:=hid (show L1++[UInt8.ofNat m]=L++qC n from by rw[← HE.out,qD hs])
   have hmm:(m:Int) % 256=(m:Int):=by omega
   go_wp2_with fail
   try rw[hmm]
   refine(un m p v1 L1 wr (by omega) HW.out.is hl1).mono ?_;rintro e w1 ⟨rfl,v2,h2⟩;have H2:=hid (HW.out.trans h2);clear h2;go_wp2
   go_end0
   exact⟨rfl,v2,by rw[← HF.out];exact H2.out⟩
  ·have HO:=hid (qI m)
   have HG:=hid (qJ HE.out hs)
   go_wp2_with fail
   rw[HO.out];refine(un (m % 128+128) p v1 L1 wr (by omega) HW.out.is hl1).mono ?_;rintro e w1 ⟨rfl,v2,h2⟩;have H2:=hid (HW.out.trans h2);clear h2;go_wp2
   go_roundw
   case rel=>exact⟨m / 128,v2,_,by go_num,by omega,H2,HG⟩
   case measure=>simp[intOf];omega
theorem uq (p:Nat)(v:Value)(L:List UInt8)(w:World)(h:aN w p v L) :
  Calls prog 171 #[.pointer (some ⟨p,0,none⟩)] w λe w'=>e = .returned (.int .i64 (L.length:Int))∧w=w':=by
 have H:=hid h;clear h
 go_enter func171,ntmps171
 go_wp2_with fail
 refine(aZ p v L w H.out).mono ?_;rintro e w1 ⟨r,hr,rfl,rfl⟩;have hz:r.size=L.length:=ao hr;have HR:=hid hz;clear hr hz;go_wp2;go_ret;exact⟨by show Ending.returned (.int .i64 (r.size:Int))=_;rw[HR.out],rfl⟩
theorem yS {n:Nat}(w:World)(o:Obj)(h:n=w.heap.size):(w.alloc o).heap[n]?=some o:=by subst h;exact heap_alloc_new _ _
theorem yT {F:Fence}(hd:F.depth=none)(k:Nat):F.room k:=λd h=>by rw[hd]at h;cases h
theorem RoundIn.anyDepth {F:Fence}(hd:F.depth=none){m m':Nat}{P:Program}{l:Nat}{f:FuncId}{tmps:Array Value}{assign body:Code}{w:World}{R:Ending→World→Prop}
  (h:RoundIn F m P l f tmps assign body w R):RoundIn F m' P l f tmps assign body w R:=⟨h.1,λc cs _=>h.2 c cs (yT hd _)⟩
theorem YieldAt.anyDepth {F:Fence}(hd:F.depth=none){m:Nat}(m':Nat){P:Program}{l:Nat}{args:Array Value}{W:World}{R:Ending→World→Prop}(h:YieldAt F m P l args W R):YieldAt F m' P l args W R:=by
 obtain⟨fn,tmps,assign,body,hy,hR⟩:=h;exact⟨fn,tmps,assign,body,hy,RoundIn.anyDepth hd hR⟩
theorem RoundIn.inRound {F:Fence}{m:Nat}{P:Program}{l l':Nat}{f:FuncId}{tmps:Array Value}{assign body:Code}{w:World}{R:Ending→World→Prop}(h:RoundIn F m P l f tmps assign body w R):RoundIn (F.inRound l') m P l f tmps assign body w R:=h
def yU {α:Type}(Q:α→Prop)(F:Fence)(n:Nat)(P:Program)(g:Nat)(lb:Array Value)(encs:α→Array Value)(own:Nat→Prop)(Kp Kx:World→World→Prop)(S Sp:List α→Prop)(N:Nat)(w:World):Prop:=
 ∀(l:Nat) (J Jx:List α→World→Prop) (W:World),Below w.heap.size w W→w.heap.size+1<W.heap.size→mZ own J→mZ own Jx →
  (∀pre x W1,Q x→J pre W1→pre.length<N→YieldAt F (n-1) P l (encs x) W1 λe W'=>(e = .returned (.bool true)∧J (pre++[x]) W'∧Kp W1 W')∨(e = .returned (.bool false)∧Jx (pre++[x]) W'∧Kx W1 W')) →
  J [] W →
  CallsIn F n P g (#[.func (.yield l) #[] #[]]++lb) W λe W'=>(∃v,e = .returned v)∧((∃xs,S xs∧J xs W')∨(∃pre,Sp pre∧Jx pre W'))
def yV {α:Type}(n:Nat)(Kp Kx:World→World→Prop)(I:List α→World→Prop)(Ix:Code→List α→World→Prop)(xs:List α)(W:World):Exit→Act→World→Prop
 | .normal,_,W'=>m8 n W W'∧Kp W W'∧I xs W'
 | .ret,_,W'=>m8 n W W'∧Kx W W'∧Ix .ret xs W'
 | .exit id,_,W'=>m8 n W W'∧Kx W W'∧Ix (.exit id) xs W'
 | .goto t,_,W'=>m8 n W W'∧Kx W W'∧Ix (.goto t) xs W'
 | .panic _,_,_=>False
 | .outgrown,_,_=>False
variable {F:Fence} {n:Nat} {P:Program}
theorem yW {α:Type}{g:Operand}{ps:Array Tmp}{assign body:Code}{Q:Exit→Act→World→Prop}{a:Act}{w:World}
  (hro:F.round=none) (h1:1≤n) {gf:Nat} {lb:Array Value} (hg:a.eval g = .func (.func gf) #[] lb) (hFg:F.fn gf) (eg:∀args w,(callFunc gf args).run P w = .ok (.enter gf args) w)
  {Qx:α→Prop} {encs:α→Array Value} {own:Nat→Prop} {Kp Kx:World→World→Prop} {S Sp:List α→Prop} {N:Nat} (hseq:yU Qx F (n-1) P gf lb encs own Kp Kx S Sp N w) (hown:¬own w.heap.size∧¬own (w.heap.size+1))
  (hKt:∀{A B C:World},Kp A B→Kp B C→Kp A C) (hKb:∀(W:World) (o:Obj),w.heap.size+1<W.heap.size→Kp W (W.putObj (w.heap.size+1) o)) (hKx:∀{A B C:World},Kp A B→Kx B C→Kx A C) (hKxb:∀(A W:World) (o:Obj),Kx A W→Kx A (W.putObj (w.heap.size+1) o)) (hps:∀x,(encs x).size=ps.size)
  (I:List α→World→Prop) (Ix:Code→List α→World→Prop) (hI:mZ (λk=>own k∨k=w.heap.size∨k=w.heap.size+1) I) (hIx:∀c,mZ (λk=>own k∨k=w.heap.size∨k=w.heap.size+1) (Ix c)) (h0:I [] w)
  (A:List α→α→Act→World→Prop) (hA:∀pre x a' W o,w.heap.size+1<W.heap.size→A pre x a' W→A pre x a' (W.putObj (w.heap.size+1) o))
  (hassign:∀(pre:List α) (x:α) (W:World) (K:Act→World→Prop),Qx x→w.heap.size+1<W.heap.size→I pre W→(∀a' W',A pre x a' W'→m8 w.heap.size W W'→W.heap.size≤W'.heap.size→Kp W W'→K a' W') →
    assign.wpIn (F.inRound (w.heap.size+1)) (n-1-1) P (Exit.then K (λ_ _ _=>False)) { tmps:=(ps.zip (encs x)).foldl (λt (p,v)=>t.setIfInBounds p v) a.tmps,defers:=[] } W)
  (hbody:∀(pre:List α) (x:α) (a':Act) (W:World),Qx x→w.heap.size+1<W.heap.size→A pre x a' W→pre.length<N→body.wpIn (F.inRound (w.heap.size+1)) (n-1-1) P (yV w.heap.size Kp Kx I Ix (pre++[x]) W) a' W)
  (hdone:∀(xs:List α) (W:World),S xs→I xs W→W.heap[w.heap.size]?=some (.deferred (some []))→Q .normal { a with defers:={ target:=.collected w.heap.size,args:=#[] }::a.defers } W)
  (hstop:∀(c:Code) (pre:List α) (W:World),Sp pre→Ix c pre W→W.heap[w.heap.size]?=some (.deferred (some []))→c.wpIn F n P Q { a with defers:={ target:=.collected w.heap.size,args:=#[] }::a.defers } W) :
  (Code.rangeFunc g ps assign body).wpIn F n P Q a w:=by
 refine wpIn_rangeFunc ?_;intro fn hfn;rw[hro];obtain⟨rec,hrec⟩:∃rec:LoopState→Option Code→Loop,rec=λst pe=>{ state:=st,pending:=pe,fn,tmps:=a.tmps,params:=ps,assign,body,defers:=w.heap.size }:=⟨_,rfl⟩;obtain⟨N0,hN0⟩:∃N0,N0=w.heap.size:=⟨_,rfl⟩;obtain⟨W1,hW1⟩:∃W1,(w.alloc (.deferred (some []))).alloc (.loop (rec .ready none))=W1:=⟨_,rfl⟩;have hL1:W1.heap[w.heap.size+1]?=some (.loop (rec .ready none)):=by
  rw[← hW1];have:=World.alloc_heap_new (w.alloc (.deferred (some []))) (.loop (rec .ready none));rwa [World.size_alloc]at this
 have hK1:W1.heap[w.heap.size]?=some (.deferred (some [])):=by
  rw[← hW1];exact(Below.heap_alloc _ _ _ (by simp)).trans (World.alloc_heap_new w _)
 have hf1:∀{S:Nat→Prop},Fr S w W1:=by intro S;rw[← hW1];exact((Fr.refl S w).alloc _).alloc _
 have hI1:I [] W1:=hI _ _ _ h0 hf1;have hb1:Below w.heap.size w W1:=by rw[← hW1];exact((Below.refl _ w).alloc (Nat.le_refl _) _).alloc (by simp) _
 have hturn:∀{β:Type} {J:β→World→Prop} (_:mZ (λk=>own k∨k=w.heap.size∨k=w.heap.size+1) J) (s:β) (W:World) (o:Obj),J s W→J s (W.putObj (w.heap.size+1) o):=
  λhJ s W o hs=>hJ s _ _ hs ((Fr.refl _ W).putObj _ (λ_=>.inr (.inr rfl)) o)
 have hkeep:∀{X Y:World} {k:Nat} {o:Obj},Fr own X Y→¬own k→X.heap[k]?=some o→Y.heap[k]?=some o:=
  λhf hk h=>(hf.block _ (lt_of_block h) hk).trans h
 refine⟨w.heap.size+1,[{ target:=.collected w.heap.size,args:=#[] }],W1,{ target:=.fn (.func gf) lb,args:=#[.func (.yield (w.heap.size+1)) #[] #[]] },W1,gf,
  #[.func (.yield (w.heap.size+1)) #[] #[]]++lb,W1,?_,?_,?_,?_,λ_=>h1,?_⟩
 ·rw[← hW1,hrec];exact run_enterLoop_outer _ _ _ _ _
 ·simp only[resolve,hg]
  simp[go_sem]
 ·intro f' hf';simp[Target.leads]at hf';subst hf';exact hFg
 ·simp[invoke,go_sem,eg]
 ·refine(hseq (w.heap.size+1) (λpre W=>I pre W∧W.heap[w.heap.size+1]?=some (.loop (rec .ready none))∧W.heap[w.heap.size]?=some (.deferred (some []))) (λpre W=>∃c,Ix c pre W∧W.heap[w.heap.size+1]?=some (.loop (rec .done (some c)))∧W.heap[w.heap.size]?=some (.deferred (some [])))
   W1 hb1 (lt_of_block hL1) (λs X Y hs hf=>⟨hI s X Y hs.1 (hf.mono (λ_ _ e=>.inl e)),hkeep hf hown.2 hs.2.1,hkeep hf hown.1 hs.2.2⟩) (λs X Y hs hf=>by
    obtain⟨c,hc,hl,hk⟩:=hs;exact⟨c,hIx c s X Y hc (hf.mono (λ_ _ e=>.inl e)),hkeep hf hown.2 hl,hkeep hf hown.1 hk⟩)
   ?_ ⟨hI1,hL1,hK1⟩).mono ?_
  ·rintro pre x W hqx ⟨hi,hl,hk⟩ hlen
   have hlt:w.heap.size+1<W.heap.size:=lt_of_block hl;have hy:=run_yield (P:=P) (args:=encs x) hl (by rw[hrec];exact hps x);rw[hrec]at hy;refine⟨fn,_,assign,body,hy,roundIn_of_wpIn hfn (hassign pre x W _ hqx hlt hi ?_)⟩;intro a' W2 hA2 hg2 hsz2 hkp2;have hl2:W2.heap[w.heap.size+1]?=some (.loop (rec .ready none)):=hg2.lo.trans hl;have hk2:W2.heap[w.heap.size]?=some (.deferred (some [])):=hg2.de.trans hk;have hlt2:w.heap.size+1<W2.heap.size:=by omega
   refine⟨_,run_beginRound hl2 (by rw[hrec]),?_⟩;have hl3:(W2.putObj (w.heap.size+1) (.loop { rec .ready none with state:=.busy })).heap[w.heap.size+1]?=some (.loop { rec .ready none with state:=.busy }):=World.putObj_heap_same hlt2;have hk3:(W2.putObj (w.heap.size+1) (.loop { rec .ready none with state:=.busy })).heap[w.heap.size]?=some (.deferred (some [])):=(World.putObj_heap_other (by omega)).trans hk2;have hkp3:Kp W (W2.putObj (w.heap.size+1) (.loop { rec .ready none with state:=.busy })):=hKt hkp2 (hKb _ _ hlt2);refine wpIn_mono (hbody pre x a' _ hqx (by rw[World.putObj_size];exact hlt2) (hA _ _ _ _ _ hlt2 hA2) hlen) ?_;have fin:∀(jump:Option Code) (W4:World),m8 w.heap.size (W2.putObj (w.heap.size+1) (.loop { rec .ready none with state:=.busy })) W4 →
     (Instr.endRound (w.heap.size+1) jump).run P W4 = .ok (.bool jump.isNone) (W4.putObj (w.heap.size+1) (.loop (rec (if jump.isNone then .ready else .done) jump))) ∧
     w.heap.size+1<W4.heap.size ∧
     (W4.putObj (w.heap.size+1) (.loop (rec (if jump.isNone then .ready else .done) jump))).heap[w.heap.size+1]?=some (.loop (rec (if jump.isNone then .ready else .done) jump)) ∧
     (W4.putObj (w.heap.size+1) (.loop (rec (if jump.isNone then .ready else .done) jump))).heap[w.heap.size]?=some (.deferred (some [])):=λjump W4 hg4=>by
    have hl4:=hg4.lo.trans hl3;have hr:=run_endRound (P:=P) jump hl4;rw[hrec]at hr ⊢;exact⟨hr,lt_of_block hl4,World.putObj_heap_same (lt_of_block hl4),(World.putObj_heap_other (by omega)).trans (hg4.de.trans hk3)⟩
   rintro e a4 W4 hp;cases e with
   | normal=>
    obtain⟨hg4,hkp4,hi4⟩:=hp;obtain⟨hr,hlt4,hl5,hk5⟩:=fin none W4 hg4;exact⟨_,_,hr,.inl ⟨rfl,⟨hturn hI _ _ _ hi4,hl5,hk5⟩,hKt (hKt hkp3 hkp4) (hKb _ _ hlt4)⟩⟩
   | ret=>
    obtain⟨hg4,hkp4,hi4⟩:=hp;obtain⟨hr,hlt4,hl5,hk5⟩:=fin (some .ret) W4 hg4;exact⟨_,_,hr,.inr ⟨rfl,⟨.ret,hturn (hIx _) _ _ _ hi4,hl5,hk5⟩,hKxb _ _ _ (hKx hkp3 hkp4)⟩⟩
   | exit id=>
    obtain⟨hg4,hkp4,hi4⟩:=hp;obtain⟨hr,hlt4,hl5,hk5⟩:=fin (some (.exit id)) W4 hg4;exact⟨_,_,hr,.inr ⟨rfl,⟨.exit id,hturn (hIx _) _ _ _ hi4,hl5,hk5⟩,hKxb _ _ _ (hKx hkp3 hkp4)⟩⟩
   | goto t=>
    obtain⟨hg4,hkp4,hi4⟩:=hp;obtain⟨hr,hlt4,hl5,hk5⟩:=fin (some (.goto t)) W4 hg4;exact⟨_,_,hr,.inr ⟨rfl,⟨.goto t,hturn (hIx _) _ _ _ hi4,hl5,hk5⟩,hKxb _ _ _ (hKx hkp3 hkp4)⟩⟩
   | panic ch=>exact hp.elim
   | outgrown=>exact hp.elim
  ·rintro e W2 ⟨⟨v,rfl⟩,(⟨xs,hS,hi,hl,hk⟩|⟨pre,hSp,c,hi,hl,hk⟩)⟩
   ·exact⟨none,_,by have:=run_endLoop (P:=P) hl (by rw[hrec];simp);rw[hrec]at this;exact this,hdone xs _ hS (hturn hI _ _ _ hi) ((World.putObj_heap_other (by omega)).trans hk)⟩
   ·exact⟨some c,_,by have:=run_endLoop (P:=P) hl (by rw[hrec];simp);rw[hrec]at this;exact this,hstop c pre _ hSp (hturn (hIx c) _ _ _ hi) ((World.putObj_heap_other (by omega)).trans hk)⟩
end
section
open Go.RowKit
theorem uC (b:UInt8):bits .andNot .u64 (b.toNat:Int) 128=((b.toNat % 128:Nat):Int):=by
 have h:∀r:Fin 256,bits .andNot .u64 ((r.val:Nat):Int) 128=((r.val % 128:Nat):Int):=by decide +kernel
 exact h ⟨b.toNat,b.toNat_lt⟩
theorem uD (k:Nat):(128:Nat) ^ k=2 ^ (7*k):=by rw[Nat.pow_mul]
theorem uE (m b k:Nat)(hm:m<128 ^ k)(hk:k≤9)(hb:b<128)(h9:k=9→b≤1) :
  bits .or .u64 (m:Int) (IntKind.u64.wrap ((b:Int)*2 ^ (7*k)))=((m+b*128 ^ k:Nat):Int)∧m+b*128 ^ k<18446744073709551616:=by
 have hbig:b*128 ^ k<18446744073709551616:=by
  by_cases h:k=9
  ·subst h
   have:=h9 rfl;rw[show(128:Nat) ^ 9=9223372036854775808 from by decide];omega
  ·have h1:(128:Nat) ^ k≤128 ^ 8:=Nat.pow_le_pow_right (by decide) (by omega)
   have h2:b*128 ^ k≤127*128 ^ 8:=Nat.mul_le_mul (by omega) h1;rw[show(127:Nat)*128 ^ 8=9151314442816847872 from by decide]at h2;omega
 have hsum:m+b*128 ^ k<18446744073709551616:=by
  by_cases h:k=9
  ·subst h
   have:=h9 rfl;rw[show(128:Nat) ^ 9=9223372036854775808 from by decide]at hm ⊢;omega
  ·have h1:(128:Nat) ^ k≤128 ^ 8:=Nat.pow_le_pow_right (by decide) (by omega)
   have h2:b*128 ^ k≤127*128 ^ 8:=Nat.mul_le_mul (by omega) h1;rw[show(127:Nat)*128 ^ 8=9151314442816847872 from by decide]at h2;rw[show(128:Nat) ^ 8=72057594037927936 from by decide]at h1;omega
 refine⟨?_,hsum⟩;have e1:((b:Int)*2 ^ (7*k))=((b*128 ^ k:Nat):Int):=by rw[uD];push_cast;rfl
 rw[e1,show IntKind.u64.wrap ((b*128 ^ k:Nat):Int)=((b*128 ^ k:Nat):Int)from by rw[IntKind.wrap_u64];omega];have hx0:b*128 ^ k % 2 ^ (7*k)=0:=by rw[← uD];exact Nat.mul_mod_left b _
 have hm2:m<2 ^ (7*k):=by rw[← uD];exact hm
 rw[bits_join_low .u64 64 (by decide) (λx h0 h1=>by rw[IntKind.wrap_u64];omega) (7*k) (m:Int) ((b*128 ^ k:Nat):Int) (by omega) (by exact_mod_cast hm2) (by omega) (by omega) (by exact_mod_cast hx0) (by omega)];omega
theorem uF {s:List UInt8}{most frm f k n:Nat}{st:bc}(h:(st.take s 1).2.1=false):ur s most frm (f+1) k n st=(0,⟨frm,8,frm⟩):=by
 rw[ur,if_pos h]
theorem uG {s:List UInt8}{most frm f k n:Nat}{st:bc}(h:(st.take s 1).2.1=true)(hb:(k=9∧1<val (st.take s 1).1)∨(0<k∧val (st.take s 1).1=0)):ur s most frm (f+1) k n st=(0,⟨frm,4,frm⟩):=by
 rw[ur,h,if_neg (by decide),if_pos hb]
theorem uH {s:List UInt8}{most frm f k n:Nat}{st:bc}(h:(st.take s 1).2.1=true)(hb:¬((k=9∧1<val (st.take s 1).1)∨(0<k∧val (st.take s 1).1=0)))(hs:val (st.take s 1).1<128) :
  ur s most frm (f+1) k n st=(if most<n+val (st.take s 1).1*128 ^ k then (0,⟨frm,40,frm⟩) else (n+val (st.take s 1).1*128 ^ k,(st.take s 1).2.2)):=by
 rw[ur,h,if_neg (by decide),if_neg hb,if_pos hs]
theorem uI {s:List UInt8}{most frm f k n:Nat}{st:bc}(h:(st.take s 1).2.1=true)(hb:¬((k=9∧1<val (st.take s 1).1)∨(0<k∧val (st.take s 1).1=0)))(hs:¬val (st.take s 1).1<128) :
  ur s most frm (f+1) k n st=ur s most frm f (k+1) (n+(val (st.take s 1).1-128)*128 ^ k) (st.take s 1).2.2:=by
 rw[ur,h,if_neg (by decide),if_neg hb,if_neg hs]
theorem uJ {st:bc}{s:List UInt8}(h:(st.take s 1).2.1=true):(st.take s 1).1.length=1∧(st.take s 1).2.2.e=0:=by
 unfold bc.take at h ⊢
 split
 ·rename_i h1;rw[if_pos h1]at h;cases h
 ·rename_i h1
  rw[if_neg h1]at h
  split
  ·rename_i h2;rw[if_pos h2]at h;cases h
  ·rename_i h2
   refine⟨by simp;omega,?_⟩;show st.e=0;exact Classical.not_not.1 h1
theorem uK (w:World)(p:Nat)(s:ByteArray)(st:bc)(h:bd w p s st)(most:Nat) :
  Calls prog 350 #[.pointer (some ⟨p,0,none⟩),.int .u64 (most:Int)] w λe w'=>e = .returned (.int .u64 ((st.short s.data.toList most).1:Int))∧bd w' p s (st.short s.data.toList most).2∧Fr (λk=>k=p) w w':=by
 obtain⟨R,hR⟩:∃R,R=st.short s.data.toList most:=⟨_,rfl⟩;rw[← hR];by_cases he:st.e=0
 ·have HS:=hid (show ∃f,0+f=10∧R=ur s.data.toList most st.at_ f 0 0 st from⟨10,rfl,by rw[hR];unfold bc.short;rw[if_neg (λhx=>hx he)]⟩)
  clear hR;have hat:=h.2.1;have hss:=h.2.2;obtain⟨c0,c1,c2,c3⟩:=h.cs;have H:=hid h;have HE:=hid he;clear h he;obtain⟨frm,hfrm⟩:∃frm,frm=st.at_:=⟨_,rfl⟩;rw[← hfrm]at hat c1;have HS1:=hid (show ∃f,0+f=10∧R=ur s.data.toList most frm f 0 0 st from by rw[hfrm];exact HS.out);clear HS hfrm
  go_enter func350,ntmps350
  go_wp2_with fail
  refine(bg _ p s st H.out true (by rw[HE.out];rfl)).mono ?_;rintro e w1 ⟨rfl,rfl⟩;go_wp2
  go_loopw [6,7] (λn sh wr=>∃(k m:Nat) (sk:bc) (z:Int),n = .int .u64 (m:Int)∧sh = .int .i64 z∧k≤9∧Hid (z=7*(k:Int))∧Hid (m<128 ^ k)∧Hid (bd wr p s sk)∧Hid (Fr (λk=>k=p) w wr)∧Hid (∃f,k+f=10∧R=ur s.data.toList most frm f k m sk)) (λ_ sh _=>70-(intOf sh).toNat)
  case atStart=>exact⟨0,0,st,0,rfl,rfl,by omega,hid rfl,hid (by decide),H,hid (Fr.refl _ _),HS1⟩
  case round=>
   obtain⟨k,m,sk,z,rfl,rfl,hk,HZ,HM,HR,HF,HQ⟩:=hrel;have hz0:0≤z:=by have:=HZ.out;omega
   have hz1:z≤63:=by have:=HZ.out;omega
   obtain⟨f,hkf,hq⟩:∃f,k+(f+1)=10∧R=ur s.data.toList most frm (f+1) k m sk:=by
    obtain⟨f,h1,h2⟩:=HQ.out
    match f,h1,h2 with
    | 0,h1,_=>omega
    | f+1,h1,h2=>exact⟨f,h1,h2⟩
   have HQ1:=hid hq;clear hq HQ
   go_wp2_with fail
   refine(bi wr p s sk HR.out 1 (by omega)).mono ?_;rintro e w2 ⟨r,hr,rfl,h2,hf2⟩;have HF2:=hid (HF.out.trans hf2);have H2:=hid h2;clear hf2 h2;cases ht:(sk.take s.data.toList 1).2.1
   ·have HE2:=hid (HQ1.out.trans (uF ht))
    clear ht hr
    go_wp2_with fail
    refine(bh w2 p s _ H2.out 8 frm hat).mono ?_;rintro e w3 ⟨rfl,h3,hf3⟩;have H3:=hid h3;clear h3;go_wp2;go_ret;rw[HE2.out];exact⟨rfl,H3.out,HF2.out.trans hf3⟩
   ·obtain⟨hr1,hre⟩:=uJ ht
    have hrs:r.size=1:=by rw[ao hr];exact hr1
    obtain⟨b,hb⟩:∃b,b=r[0]'(by omega):=⟨_,rfl⟩;have hvb:val (sk.take s.data.toList 1).1=b.toNat:=by
     have h0:0<r.size:=by omega
     have h9:=bz r 0 h0;rw[List.take_of_length_le (by rw[ak];omega),hr]at h9;rw[h9,hb];simp[val]
    have hwb:IntKind.u64.wrap (b.toNat:Int)=(b.toNat:Int):=by have:=b.toNat_lt;rw[IntKind.wrap_u64];omega
    have hb8:=b.toNat_lt;have HG:=hid hr;clear hr;have hx:IntKind.u64.wrap ((r[0]'(by omega)).toNat:Int)=(b.toNat:Int):=by rw[← hb];exact hwb
    have hnm:=uC b;clear hb hwb;by_cases h9:z=63
    ·have hk9:k=9:=by have:=HZ.out;omega
     subst h9;by_cases hb1:1<b.toNat
     ·have HE2:=hid (HQ1.out.trans (uG ht (by rw[hvb];omega)))
      clear ht hvb
      go_wp2_with fail
      refine(bh w2 p s _ H2.out 4 frm hat).mono ?_;rintro e w3 ⟨rfl,h3,hf3⟩;have H3:=hid h3;clear h3;go_wp2;go_ret;rw[HE2.out];exact⟨rfl,H3.out,HF2.out.trans hf3⟩
     ·by_cases hb0:b.toNat=0
      ·have HE2:=hid (HQ1.out.trans (uG ht (by rw[hvb];omega)))
       clear ht hvb
       go_wp2_with fail
       refine(bh w2 p s _ H2.out 4 frm hat).mono ?_;rintro e w3 ⟨rfl,h3,hf3⟩;have H3:=hid h3;clear h3;go_wp2;go_ret;rw[HE2.out];exact⟨rfl,H3.out,HF2.out.trans hf3⟩
      ·have hs:b.toNat<128:=by omega
       obtain⟨hj1,hj2⟩:=uE m (b.toNat % 128) k HM.out hk (by omega) (λh=>by omega);obtain⟨N,hN⟩:∃N,N=m+b.toNat % 128*128 ^ k:=⟨_,rfl⟩;rw[← hN]at hj1 hj2;have HJ:=hid (show bits .or .u64 (m:Int) ((b.toNat:Int) % 128*9223372036854775808)=(N:Int)from by rw[← hj1,hk9,show(2:Int) ^ (7*9)=9223372036854775808 from by decide,IntKind.wrap_u64];congr 1;omega);clear hj1;have HE2:=hid (show R=(if most<N then (0,⟨frm,40,frm⟩) else (N,(sk.take s.data.toList 1).2.2))from by
        rw[HQ1.out,uH ht (by rw[hvb];omega) (by rw[hvb];exact hs),hvb,hN,Nat.mod_eq_of_lt hs])
       clear ht hvb hN;have hup:=uy w2 p s _ H2.out N most frm hat;rw[← HE2.out]at hup;have HUP:=hid hup;clear hup
       go_wp2_with fail
       rw[HJ.out];refine HUP.out.mono ?_;rintro e w3 ⟨rfl,h3,hf3⟩;have H3:=hid h3;clear h3;go_wp2;go_ret;exact⟨rfl,H3.out,HF2.out.trans hf3⟩
    ·have h9b:(z == 63)=false:=by simpa using h9
     have hk9:k≠9:=by have:=HZ.out;omega
     by_cases h0:z=0
     ·have hk0:k=0:=by have:=HZ.out;omega
      by_cases hs:b.toNat<128
      ·obtain⟨hj1,hj2⟩:=uE m (b.toNat % 128) k HM.out hk (by omega) (λh=>by omega)
       obtain⟨N,hN⟩:∃N,N=m+b.toNat % 128*128 ^ k:=⟨_,rfl⟩;rw[← hN]at hj1 hj2;have HJ:=hid (show bits .or .u64 (m:Int) ((b.toNat:Int) % 128)=(N:Int)from by rw[← hj1,hk0,Nat.mul_zero,Int.pow_zero,Int.mul_one,IntKind.wrap_u64];congr 1;omega);clear hj1;subst h0;have HE2:=hid (show R=(if most<N then (0,⟨frm,40,frm⟩) else (N,(sk.take s.data.toList 1).2.2))from by
        rw[HQ1.out,uH ht (by rw[hvb];omega) (by rw[hvb];exact hs),hvb,hN,Nat.mod_eq_of_lt hs])
       clear ht hvb hN;have hup:=uy w2 p s _ H2.out N most frm hat;rw[← HE2.out]at hup;have HUP:=hid hup;clear hup
       go_wp2_with fail
       rw[HJ.out];refine HUP.out.mono ?_;rintro e w3 ⟨rfl,h3,hf3⟩;have H3:=hid h3;clear h3;go_wp2;go_ret;exact⟨rfl,H3.out,HF2.out.trans hf3⟩
      ·obtain⟨hj1,hj2⟩:=uE m (b.toNat % 128) k HM.out hk (by omega) (λh=>by omega)
       obtain⟨N,hN⟩:∃N,N=m+b.toNat % 128*128 ^ k:=⟨_,rfl⟩;rw[← hN]at hj1 hj2;have HJ:=hid (show bits .or .u64 (m:Int) ((b.toNat:Int) % 128)=(N:Int)from by rw[← hj1,hk0,Nat.mul_zero,Int.pow_zero,Int.mul_one,IntKind.wrap_u64];congr 1;omega);clear hj1;subst h0;have HE2:=hid (show ∃f,k+1+f=10∧R=ur s.data.toList most frm f (k+1) N (sk.take s.data.toList 1).2.2 from⟨f,by omega,by
        rw[HQ1.out,uI ht (by rw[hvb];omega) (by rw[hvb];exact hs),hvb,hN,show b.toNat-128=b.toNat % 128 from by omega]⟩)
       have HM2:=hid (show N<128 ^ (k+1)from by
        rw[hN,Nat.pow_succ];have h1:=HM.out;have h2:b.toNat % 128*128 ^ k≤127*128 ^ k:=Nat.mul_le_mul_right _ (by omega);omega)
       clear ht hvb hN;go_wp2;refine⟨⟨k+1,N,_,7,by rw[HJ.out],rfl,by omega,hid (by have:=HZ.out;push_cast;omega),HM2,H2,HF2,HE2⟩,?_⟩;simp[intOf]
     ·have hk0:0<k:=by have:=HZ.out;omega
      have hzp:0<z:=by omega
      by_cases hb0:b.toNat=0
      ·have HE2:=hid (HQ1.out.trans (uG ht (by rw[hvb];omega)))
       clear ht hvb
       go_wp2_with fail
       refine(bh w2 p s _ H2.out 4 frm hat).mono ?_;rintro e w3 ⟨rfl,h3,hf3⟩;have H3:=hid h3;clear h3;go_wp2;go_ret;rw[HE2.out];exact⟨rfl,H3.out,HF2.out.trans hf3⟩
      ·by_cases hs:b.toNat<128
       ·obtain⟨hj1,hj2⟩:=uE m (b.toNat % 128) k HM.out hk (by omega) (λh=>by omega)
        obtain⟨N,hN⟩:∃N,N=m+b.toNat % 128*128 ^ k:=⟨_,rfl⟩;rw[← hN]at hj1 hj2;have HJ:=hid (show bits .or .u64 (m:Int) (IntKind.u64.wrap ((b.toNat:Int) % 128*2 ^ z.toNat))=(N:Int)from by rw[← hj1,show z.toNat=7*k from by have:=HZ.out;omega];rfl);clear hj1;have HE2:=hid (show R=(if most<N then (0,⟨frm,40,frm⟩) else (N,(sk.take s.data.toList 1).2.2))from by
         rw[HQ1.out,uH ht (by rw[hvb];omega) (by rw[hvb];exact hs),hvb,hN,Nat.mod_eq_of_lt hs])
        clear ht hvb hN;have hup:=uy w2 p s _ H2.out N most frm hat;rw[← HE2.out]at hup;have HUP:=hid hup;clear hup
        go_wp2_with fail
        rw[HJ.out];refine HUP.out.mono ?_;rintro e w3 ⟨rfl,h3,hf3⟩;have H3:=hid h3;clear h3;go_wp2;go_ret;exact⟨rfl,H3.out,HF2.out.trans hf3⟩
       ·obtain⟨hj1,hj2⟩:=uE m (b.toNat % 128) k HM.out hk (by omega) (λh=>by omega)
        obtain⟨N,hN⟩:∃N,N=m+b.toNat % 128*128 ^ k:=⟨_,rfl⟩;rw[← hN]at hj1 hj2;have HJ:=hid (show bits .or .u64 (m:Int) (IntKind.u64.wrap ((b.toNat:Int) % 128*2 ^ z.toNat))=(N:Int)from by rw[← hj1,show z.toNat=7*k from by have:=HZ.out;omega];rfl);clear hj1;have HE2:=hid (show ∃f,k+1+f=10∧R=ur s.data.toList most frm f (k+1) N (sk.take s.data.toList 1).2.2 from⟨f,by omega,by
         rw[HQ1.out,uI ht (by rw[hvb];omega) (by rw[hvb];exact hs),hvb,hN,show b.toNat-128=b.toNat % 128 from by omega]⟩)
        have HM2:=hid (show N<128 ^ (k+1)from by
         rw[hN,Nat.pow_succ];have h1:=HM.out;have h2:b.toNat % 128*128 ^ k≤127*128 ^ k:=Nat.mul_le_mul_right _ (by omega);omega)
        clear ht hvb hN;go_wp2;refine⟨⟨k+1,N,_,z+7,by rw[HJ.out],rfl,by omega,hid (by have:=HZ.out;push_cast;omega),HM2,H2,HF2,HE2⟩,?_⟩;simp[intOf];omega
 ·have HS:=hid (show R=(0,st)from by rw[hR];unfold bc.short;rw[if_pos he])
  rw[HS.out];clear hR HS;have H:=hid h;have HE:=hid he;clear h he
  go_enter func350,ntmps350
  go_wp2_with fail
  refine(bg _ p s st H.out false (by simpa using HE.out)).mono ?_;rintro e w1 ⟨rfl,rfl⟩;go_wp2;go_ret;exact⟨rfl,H.out,Fr.refl _ _⟩
end
end Go.Proofs.YthjjgcfdhkhelaaGreatDoor
