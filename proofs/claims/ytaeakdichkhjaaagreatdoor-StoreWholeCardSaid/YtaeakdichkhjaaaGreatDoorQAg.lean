/- The names, rising: the walk of names. -/
import Derived.Test.YtaeakdichkhjaaaGreatDoorQAa
import Derived.Test.YtaeakdichkhjaaaGreatDoorShelf
import Derived.Lib.ItoaLen
import Derived.Lib.ParseIntB
import Derived.Lib.IndexMore
import Derived.Test.YtaeakdichkhjaaaGreatDoorQAf
import Derived.Shelf.SlIter.Nil
import Derived.Shelf.SortM.Plain
import Derived.Shelf.SortM.SortNone
set_option maxHeartbeats 2500000
open Go.Lib(hid)
namespace Go.Proofs.YtaeakdichkhjaaaGreatDoor
section
open Go.RowKit Go.Sort
abbrev Pow (w:World):Prop:=Lib.TabIs Tryz.prog w "internal/strconv.uint64pow10" .u64 Lib.pow10Tab
theorem gp {w:World}(h:Pow w):0<w.heap.size:=by
 unfold Pow Lib.TabIs World.var? at h;rw[show Tryz.prog.globalNamed "internal/strconv.uint64pow10" = some 0 from by kernel_rfl]at h;simp only[Option.bind_some]at h
 rcases Nat.lt_or_ge 0 w.heap.size with h'|h'
 ·exact h'
 ·rw[Array.getElem?_eq_none h']at h;cases h
theorem Fr.pow {S:Nat→Prop}{w w':World}(hf:Fr S w w')(h:Pow w)(hs:¬S 0):Pow w':=by
 have hl:=gp h;unfold Pow Lib.TabIs World.var? at h ⊢;rw[show Tryz.prog.globalNamed "internal/strconv.uint64pow10" = some 0 from by kernel_rfl]at h ⊢;simp only[Option.bind_some]at h ⊢;rw[hf.block _ hl hs];exact h
theorem gq {w w':World}(hb:Below w.heap.size w w')(h:Pow w):Pow w':=(Fr.pure (S:=λ_=>False) hb).pow h (λh=>h)
def gr (n:Nat):List UInt8:=List.replicate n 48
theorem gt (c:Nat):Lib.repeatL [48] c=gr c:=by
 induction c with
 | zero=>rfl
 | succ c ih=>unfold Lib.repeatL gr;rw[ih,List.replicate_succ];rfl
def gu (n:Int)(d:Nat):List UInt8:=gr (d-(Lib.itoa n).length)++Lib.itoa n
def gv (f:Int):Bool:=decide (0≤f) && decide (f≤1048576)
theorem gw (n:Int)(d:Nat)(h0 : -9223372036854775808≤n)(h1:n≤9223372036854775807):(gu n d).length≤d+21:=by
 unfold gu gr;have:=Lib.itoa_length_le n h0 h1;rw[List.length_append,List.length_replicate];omega
end
section
open Go.RowKit
def gx (c:UInt8):Prop:=48≤c.toNat∧c.toNat≤57
theorem gy (d:Nat)(h:d<10):(UInt8.ofNat (48+d)).toNat=48+d:=by simp;omega
theorem gz (M:Nat)(hM:M≤18446744073709551615):∀u,∀r:List UInt8,u≤M→Lib.parseUintM M 0 (Lib.decDigits u++r)=Lib.parseUintM M u r:=by
 intro u
 induction u using Nat.strongRecOn with
 | _ u ih=>
  intro r hu;rw[Lib.decDigits]
  split
  ·rename_i h
   have:=gy u h;simp only[List.singleton_append,Lib.parseUintM,this];rw[if_pos (by omega),if_neg (by omega),if_neg (by omega)];congr 1;omega
  ·rename_i h
   have:=gy (u % 10) (by omega);rw[List.append_assoc];rw[ih (u / 10) (by omega) _ (by omega)];simp only[List.singleton_append,Lib.parseUintM,this];rw[if_pos (by omega),if_neg (by omega),if_neg (by omega)];congr 1;omega
theorem gA (M:Nat)(r:List UInt8)(k:Nat):Lib.parseUintM M 0 (gr k++r)=Lib.parseUintM M 0 r:=by
 induction k with
 | zero=>rfl
 | succ k ih=>
  unfold gr at ih ⊢;rw[List.replicate_succ,List.cons_append,Lib.parseUintM];rw[if_pos (by decide),if_neg (by decide),if_neg (by show ¬M<0*10+(48-48);omega)];exact ih
theorem gB (u:Nat):∀c∈Lib.decDigits u,gx c:=by
 induction u using Nat.strongRecOn with
 | _ u ih=>
  rw[Lib.decDigits]
  split
  ·rename_i h
   intro c hc;rw[List.mem_singleton]at hc;subst hc;unfold gx;rw[gy u h];omega
  ·rename_i h
   intro c hc
   rcases List.mem_append.1 hc with hc|hc
   ·exact ih (u / 10) (by omega) c hc
   ·rw[List.mem_singleton]at hc
    subst hc;unfold gx;rw[gy (u % 10) (by omega)];omega
theorem gC (u d:Nat)(h:u<10 ^ (d+1)):(Lib.decDigits u).length≤d+1:=by
 induction d generalizing u with
 | zero=>rw[Lib.decDigits,dif_pos (by omega)];simp
 | succ d ih=>
  rw[Lib.decDigits]
  split
  ·simp
  ·have:=ih (u / 10) (by rw[Nat.pow_succ]at h;omega)
   rw[List.length_append,List.length_singleton];omega
theorem gD (u:Nat):Lib.decDigits u≠[]:=by
 rw[Lib.decDigits];split<;>simp
theorem gE (u d:Nat):gu (u:Int) d=gr (d-(Lib.decDigits u).length)++Lib.decDigits u:=by
 unfold gu;rw[Lib.itoa_nonneg]
theorem gF (u d:Nat):∀c∈gu (u:Int) d,gx c:=by
 intro c hc;rw[gE]at hc
 rcases List.mem_append.1 hc with hc|hc
 ·unfold gr at hc
  rw[List.mem_replicate]at hc;rw[hc.2];unfold gx;decide
 ·exact gB u c hc
theorem gG (u d:Nat):gu (u:Int) d≠[]:=by
 rw[gE];intro e;exact gD u (List.append_eq_nil_iff.1 e).2
theorem gH (u d:Nat)(h:u<10 ^ (d+1)):(gu (u:Int) (d+1)).length=d+1:=by
 have:=gC u d h;rw[gE,List.length_append];unfold gr;rw[List.length_replicate];omega
theorem gI (u d:Nat)(hu:u<9223372036854775808):Lib.parseIntB 64 (gu (u:Int) d) = .ok (u:Int):=by
 have hp:Lib.parseUintM (2 ^ 64-1) 0 (gu (u:Int) d) = .ok u:=by
  rw[gE,gA];have:=gz (2 ^ 64-1) (by decide) u [] (by omega);rw[List.append_nil]at this;rw[this];rfl
 have hne:=gG u d;have hd:=gF u d;cases e:gu (u:Int) d with
 | nil=>exact absurd e hne
 | cons c r=>
  rw[e]at hp hd;have hc:=hd c (by simp);unfold gx at hc;unfold Lib.parseIntB;simp only;rw[if_neg (by omega)];unfold Lib.parseUintB;rw[if_neg (by simp),hp];simp only;rw[if_neg (by rintro⟨_,h⟩;omega),if_neg (by rintro⟨h,_⟩;omega),if_neg (by omega)]
def vF:Nat→List UInt8→Nat
 | n,[]=>n
 | n,c::r=>vF (n*10+(c.toNat-48)) r
theorem gJ (a b:List UInt8):∀n,vF n (a++b)=vF (vF n a) b:=by
 induction a with
 | nil=>intro n;rfl
 | cons c r ih=>intro n;exact ih _
theorem gK (u:Nat):vF 0 (Lib.decDigits u)=u:=by
 induction u using Nat.strongRecOn with
 | _ u ih=>
  rw[Lib.decDigits]
  split
  ·rename_i h
   show 0*10+((UInt8.ofNat (48+u)).toNat-48)=u;rw[gy u h];omega
  ·rename_i h
   rw[gJ,ih (u / 10) (by omega)];show u / 10*10+((UInt8.ofNat (48+u % 10)).toNat-48)=u;rw[gy (u % 10) (by omega)];omega
theorem gL (k:Nat)(r:List UInt8):vF 0 (gr k++r)=vF 0 r:=by
 induction k with
 | zero=>rfl
 | succ k ih=>
  unfold gr at ih ⊢;rw[List.replicate_succ,List.cons_append];exact ih
theorem gM (u d:Nat):vF 0 (gu (u:Int) d)=u:=by rw[gE,gL,gK]
def p10:Nat→Nat
 | 0=>1
 | k+1=>10*p10 k
theorem gN (a k:Nat):a*p10 (k+1)=(a*10)*p10 k:=by
 show a*(10*p10 k)=_;rw[Nat.mul_assoc]
theorem gO:∀(l:List UInt8) (n:Nat),n*p10 l.length≤vF n l
 | [],n=>Nat.le_of_eq (Nat.mul_one n)
 | c::r,n=>by
  have h:=gO r (n*10+(c.toNat-48));have e:vF n (c::r)=vF (n*10+(c.toNat-48)) r:=rfl;have h2:(n*10)*p10 r.length≤(n*10+(c.toNat-48))*p10 r.length:=Nat.mul_le_mul_right _ (Nat.le_add_right _ _);rw[e,List.length_cons,gN];exact Nat.le_trans h2 h
theorem gP:∀(l:List UInt8),(∀c∈l,gx c)→∀n,vF n l<(n+1)*p10 l.length
 | [],_,n=>by
  rw[List.length_nil];show n<(n+1)*1;omega
 | c::r,hd,n=>by
  have hc:=hd c (by simp);unfold gx at hc;have h:=gP r (λx hx=>hd x (by simp[hx])) (n*10+(c.toNat-48));have e:vF n (c::r)=vF (n*10+(c.toNat-48)) r:=rfl;have h2:(n*10+(c.toNat-48)+1)*p10 r.length≤((n+1)*10)*p10 r.length:=Nat.mul_le_mul_right _ (by omega);rw[e,List.length_cons,gN];exact Nat.lt_of_lt_of_le h h2
def gQ (n:Int):List UInt8:=if 0≤n∧n≤1048576 then 110::gu n 10 else []
def gR (s:List UInt8):Prop:=∃n:Nat,n≤1048576∧s=gQ (n:Int)
theorem gS (n:Nat)(h:n≤1048576):gQ (n:Int)=110::gu (n:Int) 10:=by
 unfold gQ;rw[if_pos (by omega)]
theorem gT (n:Nat)(h:n≤1048576):(gQ (n:Int)).length=11:=by
 rw[gS n h,List.length_cons,gH n 9 (by omega)]
theorem gU {n:Int}(h:gQ n≠[]):0≤n∧n≤1048576:=by
 unfold gQ at h
 split at h
 ·assumption
 ·exact absurd rfl h
theorem gV (r:List UInt8):Lib.hasPrefix (110::r) [110]=true:=by
 unfold Lib.hasPrefix;simp
theorem gW (r:List UInt8):Lib.trimPrefix (110::r) [110]=r:=by
 unfold Lib.trimPrefix Lib.hasPrefix;simp
theorem gX (a b:List UInt8):(Lib.trimPrefix a b).length≤a.length:=by
 unfold Lib.trimPrefix
 split
 ·rw[List.length_drop];omega
 ·exact Nat.le_refl _
open Classical in
noncomputable def gY (s:List UInt8):Option Nat:=if gR s then some (vF 0 (s.drop 1)) else none
theorem gZ (n:Nat)(h:n≤1048576):gY (gQ (n:Int))=some n:=by
 unfold gY;rw[if_pos ⟨n,h,rfl⟩,gS n h];show some (vF 0 (gu (n:Int) 10))=_;rw[gM]
theorem g9 {s:List UInt8}{n:Nat}(h:gY s=some n):n≤1048576∧s=gQ (n:Int):=by
 by_cases hs:gR s
 ·obtain⟨m,hm,rfl⟩:=hs
  rw[gZ m hm]at h;cases h;exact⟨hm,rfl⟩
 ·unfold gY at h;rw[if_neg hs]at h;cases h
theorem hG {s:List UInt8}:gY s=none↔¬gR s:=by
 constructor
 ·intro h ⟨m,hm,e⟩;rw[e,gZ m hm]at h;cases h
 ·intro h;unfold gY;rw[if_neg h]
noncomputable def hU (ns:List (List UInt8)):List Nat:=ns.filterMap gY
theorem hZ {ns:List (List UInt8)}{k:Nat}(hk:k<ns.length):hU (ns.take (k+1))=hU (ns.take k)++(gY ns[k]).toList:=by
 unfold hU;rw[List.take_succ_eq_append_getElem hk,List.filterMap_append];cases h:gY ns[k]<;>simp[h]
theorem ia (ns:List (List UInt8)):(hU ns).length≤ns.length:=List.length_filterMap_le _ _
theorem ib:∀(A B:List UInt8) (n:Nat),A.length=B.length→(∀c∈A,gx c)→(∀c∈B,gx c)→vF n A=vF n B→A=B:=by
 intro A B n hl hA hB h;by_cases e:A=B
 ·exact e
 ·exfalso
  induction A generalizing B n with
  | nil=>cases B with
   | nil=>exact e rfl
   | cons b s=>simp at hl
  | cons a r ih=>cases B with
   | nil=>simp at hl
   | cons b s=>
    have ha:=hA a (by simp);have hb:=hB b (by simp);unfold gx at ha hb;have hl':r.length=s.length:=by simpa using hl
    have hA':∀c∈r,gx c:=λx hx=>hA x (by simp[hx]);have hB':∀c∈s,gx c:=λx hx=>hB x (by simp[hx]);have h':vF (n*10+(a.toNat-48)) r=vF (n*10+(b.toNat-48)) s:=h;have g1:=gP s hB' (n*10+(b.toNat-48));have g2:=gO r (n*10+(a.toNat-48));have g3:=gP r hA' (n*10+(a.toNat-48));have g4:=gO s (n*10+(b.toNat-48));rw[hl']at g2 g3
    rcases Nat.lt_trichotomy a.toNat b.toNat with hc|hc|hc
    ·have h3:(n*10+(a.toNat-48)+1)*p10 s.length≤(n*10+(b.toNat-48))*p10 s.length:=Nat.mul_le_mul_right _ (by omega)
     omega
    ·have e2:a=b:=UInt8.toNat_inj.1 hc
     subst e2;exact ih s _ hl' hA' hB' h' (λe3=>e (by rw[e3]))
    ·have h3:(n*10+(b.toNat-48)+1)*p10 s.length≤(n*10+(a.toNat-48))*p10 s.length:=Nat.mul_le_mul_right _ (by omega)
     omega
def ie (s:List UInt8):Option Nat:=
 if s.take 1=[110]∧s.length=11∧(s.drop 1).all (λc=>decide (48≤c.toNat) && decide (c.toNat≤57))=true∧vF 0 (s.drop 1)≤1048576 then some (vF 0 (s.drop 1)) else none
theorem ig (s:List UInt8):ie s=gY s:=by
 cases h:gY s with
 | some n=>
  obtain⟨hn,rfl⟩:=g9 h;have hd:(gQ (n:Int)).drop 1=gu (n:Int) 10:=by rw[gS n hn];rfl
  unfold ie;rw[hd,gM,if_pos];refine⟨by rw[gS n hn];rfl,gT n hn,?_,hn⟩;rw[List.all_eq_true];intro c hc;have:=gF n 10 c hc;unfold gx at this;simp[this.1,this.2]
 | none=>
  unfold ie;rw[if_neg];rintro⟨h1,h2,h3,h4⟩;refine hG.1 h ⟨vF 0 (s.drop 1),h4,?_⟩;have hs:s=110::s.drop 1:=by
   have:=List.take_append_drop 1 s;rw[h1]at this;exact this.symm
  rw[gS _ h4]
  conv=>lhs;rw[hs]
  congr 1;refine ib _ _ 0 ?_ (λc hc=>?_) (gF _ 10) (by rw[gM])
  ·rw[List.length_drop,h2,gH _ 9 (by omega)]
  ·rw[List.all_eq_true]at h3
   have:=h3 c hc;unfold gx;simpa using this
def ii (ns:List (List UInt8)):List Nat:=ns.filterMap ie
theorem ij (ns:List (List UInt8)):ii ns=hU ns:=by
 unfold ii hU;congr 1;funext s;exact ig s
end
section
open Go.RowKit Go.Maps Go.Sort
def FilesAt (w:World)(sv:Value)(l:Fs):Prop:=
 ∃a c,sv = .slice a l.length c∧(l=[]∨∃b o,a=some ⟨b,o,none⟩∧∀i (h:i<l.length),∃x y z:ByteArray,x.data.toList=l[i].name∧y.data.toList=l[i].firm∧z.data.toList=l[i].pend ∧
  w.cell? ⟨b,o+i*3,none⟩=some (.string x)∧w.cell? ⟨b,o+i*3+1,none⟩=some (.string y)∧w.cell? ⟨b,o+i*3+2,none⟩=some (.string z))
theorem FilesAt.shape {w:World}{sv:Value}{l:Fs}(h:FilesAt w sv l):∃a c,sv = .slice a l.length c:=by obtain⟨a,c,h,_⟩:=h;exact⟨a,c,h⟩
theorem FilesAt.at {w:World}{a:Option Addr}{c n:Nat}{l:Fs}(h:FilesAt w (.slice a n c) l)(k:Nat)(hk:k<l.length) :
  ∃b o,a=some ⟨b,o,none⟩∧b<w.heap.size∧∃x y z:ByteArray,x.data.toList=l[k].name∧y.data.toList=l[k].firm∧z.data.toList=l[k].pend ∧
   w.cell? ⟨b,o+k*3,none⟩=some (.string x)∧w.cell? ⟨b,o+k*3+1,none⟩=some (.string y)∧w.cell? ⟨b,o+k*3+2,none⟩=some (.string z):=by
 obtain⟨a',c',he,h|⟨b,o,rfl,h⟩⟩:=h
 ·subst h;simp at hk
 ·cases he
  obtain⟨x,y,z,h1,h2,h3,h4,h5,h6⟩:=h k hk;exact⟨b,o,rfl,aD h4,x,y,z,h1,h2,h3,h4,h5,h6⟩
def ik (cnt:Nat):List UInt8→Fs→Bool
 | _,[]=>true
 | last,f::r=>(ed f.name && bytesBefore last f.name && decide (f.firm.length+f.pend.length≤1048576) && decide (cnt≤64)) && ik cnt f.name r
def il (cap:Int)(l:Fs):Option DkSt×Int:=
 if cap<0 then (none,1) else if !ik l.length [] l then (none,4) else if cap<(ec l:Int) then (none,44) else (some ⟨l,cap,-1,false⟩,0)
structure LdInv (l:Fs) (k:Nat) (last:List UInt8):Prop where
 eq:ik l.length [] l=ik l.length last (l.drop k)
 sorted:(l.take k).Pairwise (λf g=>bytesBefore f.name g.name=true)
 upto:∀g∈l.take k,g.name=last∨bytesBefore g.name last=true
 keep:FsKeep (l.take k)
theorem im {fs:Fs}{f:FileS}(h:∀g∈fs,bytesBefore g.name f.name=true):dQ fs f=fs++[f]:=by
 have hd:dP fs f.name=fs:=by
  unfold dP;rw[List.filter_eq_self];intro g hg;have:=ez (h g hg);simpa using this
 unfold dQ;rw[hd];clear hd
 induction fs with
 | nil=>rfl
 | cons g r ih=>
  have hg:=h g (by simp);have hn:bytesBefore f.name g.name=false:=by
   cases e:bytesBefore f.name g.name
   ·rfl
   ·have:=WideShapes.bytes_trans _ _ _ hg e;rw[WideAt.bytes_irrefl]at this;cases this
  unfold dO;rw[hn,ih (λx hx=>h x (by simp[hx]))];rfl
theorem LdInv.start (l:Fs):LdInv l 0 []:=⟨rfl,by simp,by simp,⟨by simp,by simp,by simp⟩⟩
theorem io {l:Fs}{k:Nat}{last:List UInt8}(hk:k<l.length):ik l.length last (l.drop k)=((ed l[k].name && bytesBefore last l[k].name && decide (l[k].firm.length+l[k].pend.length≤1048576) && decide (l.length≤64)) && ik l.length l[k].name (l.drop (k+1))):=by
 rw[List.drop_eq_getElem_cons hk];rfl
theorem LdInv.bad {l:Fs}{k:Nat}{last:List UInt8}(h:LdInv l k last)(hk:k<l.length)(hc:(ed l[k].name && bytesBefore last l[k].name && decide (l[k].firm.length+l[k].pend.length≤1048576) && decide (l.length≤64))=false):ik l.length [] l=false:=by
 rw[h.eq,io hk,hc];rfl
theorem LdInv.before {l:Fs}{k:Nat}{last:List UInt8}(h:LdInv l k last)(hk:k<l.length)(hb:bytesBefore last l[k].name=true):∀g∈l.take k,bytesBefore g.name l[k].name=true:=by
 intro g hg
 rcases h.upto g hg with e|e
 ·rw[e];exact hb
 ·exact WideShapes.bytes_trans _ _ _ e hb
theorem LdInv.put {l:Fs}{k:Nat}{last:List UInt8}(h:LdInv l k last)(hk:k<l.length)(hb:bytesBefore last l[k].name=true):dQ (l.take k) l[k]=l.take (k+1):=by
 rw[im (h.before hk hb),List.take_succ_eq_append_getElem hk]
theorem LdInv.next {l:Fs}{k:Nat}{last:List UInt8}(h:LdInv l k last)(hk:k<l.length)(h1:ed l[k].name=true)(h2:bytesBefore last l[k].name=true)(h3:l[k].firm.length+l[k].pend.length≤1048576)(h4:l.length≤64):LdInv l (k+1) l[k].name:=by
 have ht:l.take (k+1)=l.take k++[l[k]]:=List.take_succ_eq_append_getElem hk;refine⟨by rw[h.eq,io hk,h1,h2,decide_eq_true h3,decide_eq_true h4];rfl,?_,?_,?_,?_,?_⟩
 ·rw[ht,List.pairwise_append]
  exact⟨h.sorted,by simp,λa ha b hb=>by rw[List.mem_singleton]at hb;subst hb;exact h.before hk h2 a ha⟩
 ·intro g hg
  rw[ht,List.mem_append,List.mem_singleton]at hg
  rcases hg with hg|rfl
  ·exact .inr (h.before hk h2 g hg)
  ·exact .inl rfl
 ·rw[List.length_take];omega
 ·intro g hg
  rw[ht,List.mem_append,List.mem_singleton]at hg
  rcases hg with hg|rfl
  ·exact h.keep.small g hg
  ·exact h3
 ·intro g hg
  rw[ht,List.mem_append,List.mem_singleton]at hg
  rcases hg with hg|rfl
  ·exact h.keep.names g hg
  ·exact fD h1
theorem LdInv.ok {l:Fs}{k:Nat}{last:List UInt8}(h:LdInv l k last)(hk:k=l.length):ik l.length [] l=true∧FsOk l:=by
 subst hk;have e:=h.eq;have h1:=h.sorted;have h2:=h.keep;rw[List.drop_length]at e;rw[List.take_length]at h1 h2;exact⟨e,h1,h2.few,h2.small,h2.names⟩
theorem ip:∀(a b:List UInt8),Op.bytesLess a b=bytesBefore a b
 | [],[]=>rfl
 | [],_::_=>rfl
 | _::_,[]=>rfl
 | a::r,b::s=>by unfold Op.bytesLess bytesBefore;rw[ip r s]
theorem iq (a b:List UInt8):(Op.bytesLess a b || a == b) = !bytesBefore b a:=by
 rw[ip];by_cases h:a=b
 ·subst h;rw[WideAt.bytes_irrefl];simp
 ·rw[show(a == b)=false from by simpa using h,Bool.or_false]
  rcases WideAt.bytes_total a b h with e|e
  ·rw[e]
   cases e2:bytesBefore b a
   ·rfl
   ·have:=WideShapes.bytes_trans _ _ _ e e2;rw[WideAt.bytes_irrefl]at this;cases this
  ·rw[e]
   cases e2:bytesBefore a b
   ·rfl
   ·have:=WideShapes.bytes_trans _ _ _ e e2;rw[WideAt.bytes_irrefl]at this;cases this
def ir (cap:Int)(l:Fs)(w:World)(e:Ending)(w':World):Prop:=
 Below w.heap.size w w'∧match il cap l with
  | (some st,c)=>∃p b,w.heap.size≤p∧w.heap.size≤b∧e = .returned (.tuple #[.pointer (some ⟨p,0,none⟩),.int .i64 c])∧IsDk w' p b st
  | (none,c)=>e = .returned (.tuple #[.pointer none,.int .i64 c])
theorem iu {n:Nat}(w:World)(o:Obj)(h:n=w.heap.size):(w.alloc o).heap[n]?=some o:=by subst h;exact heap_alloc_new w o
set_option maxRecDepth 100000 in
theorem iw (w:World)(cap:Int)(sv:Value)(l:Fs)(hl:FilesAt w sv l)(hlen:l.length≤4398046511104)(hsz:∀f∈l,f.name.length≤140737488355328∧f.firm.length≤140737488355328∧f.pend.length≤140737488355328)(hc1:cap≤9223372036854775807) :
  Calls Tryz.prog 8 #[.int .i64 cap,sv] w λe w'=>ir cap l w e w':=by
 have hmm:=@run_makeMap Tryz.prog;obtain⟨a,c,rfl⟩:=hl.shape;have HS:=hid hl;clear hl;by_cases hc0:cap<0
 ·go_enter Tryz.func8,Tryz.ntmps8
  go_wp2;refine bodyPost_ret (v:=.tuple #[.pointer none,.int .i64 1]) (by simp[results,Tryz.results8,go_sem]) rfl ⟨Below.refl _ _,?_⟩;unfold il;rw[if_pos hc0]
 ·go_enter Tryz.func8,Tryz.ntmps8
  go_wp2
  go_loopw [7,18] (λx i wr=>∃(k:Nat) (lb:ByteArray),k≤l.length∧i = .int .i64 k∧x = .string lb∧LdInv l k lb.data.toList∧wr.heap[w.heap.size+1]?=some (.cells ((⟨l.take k,cap,-1,false⟩:DkSt).cells w.heap.size) 78 (0,0))∧wr.ownsMap Tryz.prog 9 dJ w.heap.size k (fsD (l.take k))∧Below w.heap.size w wr) (λ_ i _=>l.length-(intOf i).toNat)
  case atStart=>
   exact⟨0,⟨#[]⟩,by omega,rfl,rfl,LdInv.start l,iu _ _ (by simp),ownsMap_at rfl _,((Below.refl _ _).alloc (Nat.le_refl _) _).alloc (by simp) _⟩
  case round=>
   obtain⟨k,lb,hk,rfl,rfl,hinv,hcell,hown,hb⟩:=hrel;have hwr:w.heap.size+1<wr.heap.size:=lt_of_block hcell;by_cases hlt:k<l.length
   ·obtain⟨b0,o,rfl,hbl,x,y,z,e1,e2,e3,h1,h2,h3⟩:=HS.out.at k hlt
    have hg1:=(hb.cell (p:=⟨b0,o+k*3,none⟩) hbl).trans h1;have hg2:=(hb.cell (p:=⟨b0,o+k*3+1,none⟩) hbl).trans h2;have hg3:=(hb.cell (p:=⟨b0,o+k*3+2,none⟩) hbl).trans h3;clear h1 h2 h3;have E:=hid (show x.data.toList=l[k].name∧y.data.toList=l[k].firm∧z.data.toList=l[k].pend from⟨e1,e2,e3⟩);have hszs:=hsz l[k] (List.getElem_mem hlt);rw[← e1,← e2,← e3,aq,aq,aq]at hszs;obtain⟨hx1,hx2,hx3⟩:=hszs;clear e1 e2 e3
    go_wp2_with fail
    refine(eM x _ (by omega)).mono ?_;rintro e w3 ⟨rfl,hb3⟩;have HB3:=hid (((Below.refl _ wr).alloc (Nat.le_refl _) (.cells #[.string x,.string y,.string z] 60)).trans (hb3.mono (by simp)));have hs3:=hb3.size;simp at hs3;have n0:w3.cell? ⟨wr.heap.size,0,none⟩=some (.string x):=by rw[hb3.cell (by simp),World.cell?_alloc_at _ _ _ _ rfl];rfl
    have n1:w3.cell? ⟨wr.heap.size,1,none⟩=some (.string y):=by rw[hb3.cell (by simp),World.cell?_alloc_at _ _ _ _ rfl];rfl
    have n2:w3.cell? ⟨wr.heap.size,2,none⟩=some (.string z):=by rw[hb3.cell (by simp),World.cell?_alloc_at _ _ _ _ rfl];rfl
    have hcell3:=(HB3.out.block _ hwr).trans hcell;have hown3:=ef hown (Fr.pure (S:=λ_=>False) HB3.out) (λh=>h);clear hb3 hcell hown;cases hM:ed x.data.toList
    ·have hcc:=hid (hinv.bad hlt (by rw[← E.out.1,hM];simp))
     clear hinv;go_wp2;refine bodyPost_ret (v:=.tuple #[.pointer none,.int .i64 4]) (by simp[results,Tryz.results8,go_sem]) rfl ⟨hb.trans (HB3.out.mono hb.size),?_⟩;unfold il;rw[if_neg (by omega),hcc.out];rfl
    ·cases hB:bytesBefore lb.data.toList x.data.toList
     ·have hleq:(Op.bytesLess x.toList lb.toList || x.toList == lb.toList)=true:=by rw[ByteArray.toList_eq,ByteArray.toList_eq,iq,hB];rfl
      have hcc:=hid (hinv.bad hlt (by rw[← E.out.1,hM,hB];simp));clear hinv;go_wp2;refine bodyPost_ret (v:=.tuple #[.pointer none,.int .i64 4]) (by simp[results,Tryz.results8,go_sem]) rfl ⟨hb.trans (HB3.out.mono hb.size),?_⟩;unfold il;rw[if_neg (by omega),hcc.out];rfl
     ·have hleq:(Op.bytesLess x.toList lb.toList || x.toList == lb.toList)=false:=by rw[ByteArray.toList_eq,ByteArray.toList_eq,iq,hB];rfl
      have hl1:Op.bytesLess x.toList lb.toList=false:=(Bool.or_eq_false_iff.1 hleq).1;have hl2:(x.toList == lb.toList)=false:=(Bool.or_eq_false_iff.1 hleq).2;by_cases hS:1048576<y.size+z.size
      ·have hS1:(1048576:Int)<(y.size:Int)+(z.size:Int):=by omega
       have hcc:=hid (hinv.bad hlt (by rw[← E.out.2.1,← E.out.2.2,aq,aq,decide_eq_false (by omega:¬y.size+z.size≤1048576)];simp));clear hinv;go_wp2;refine bodyPost_ret (v:=.tuple #[.pointer none,.int .i64 4]) (by simp[results,Tryz.results8,go_sem]) rfl ⟨hb.trans (HB3.out.mono hb.size),?_⟩;unfold il;rw[if_neg (by omega),hcc.out];rfl
      ·have hS1:¬(1048576:Int)<(y.size:Int)+(z.size:Int):=by omega
       by_cases hC:64<l.length
       ·have hcc:=hid (hinv.bad hlt (by rw[decide_eq_false (by omega:¬l.length≤64)];simp))
        clear hinv;go_wp2;refine bodyPost_ret (v:=.tuple #[.pointer none,.int .i64 4]) (by simp[results,Tryz.results8,go_sem]) rfl ⟨hb.trans (HB3.out.mono hb.size),?_⟩;unfold il;rw[if_neg (by omega),hcc.out];rfl
       ·have hsx:=E.out
        have HN:=hid (hinv.next hlt (by rw[← hsx.1];exact hM) (by rw[← hsx.1];exact hB) (by rw[← hsx.2.1,← hsx.2.2,aq,aq];omega) (by omega));have HP:=hid (hinv.put hlt (by rw[← hsx.1];exact hB));have hln:=fD hM;rw[aq]at hln;obtain⟨w4,hrun,hown4,hturn4⟩:=(show w3.drew.ownsMap Tryz.prog 9 dJ w.heap.size k (fsD (l.take k))from hown3).store (t:=76) (e:=81) Tryz.strKey Tryz.underlying76 (by unfold maxLen;omega) (key:=.string x) (val:=.agg #[.string y,.string z]) (WideMaps.keyOf_string_mk Tryz.underlying9 (by unfold maxLen;omega)) (dL _ _);have HT:=hid (eN hturn4);have c0:w3.cell? ⟨w.heap.size+1,0,none⟩=some (.map (some w.heap.size)):=by rw[cell_of_row w3 _ _ _ _ _ hcell3];rfl
        have HO4:=hid (show w4.ownsMap Tryz.prog 9 dJ w.heap.size (k+1) (fsD (l.take (k+1)))from by
         rw[← HP.out,← dV];show w4.ownsMap Tryz.prog 9 dJ w.heap.size (k+1) ((fsD (l.take k)).put (.string l[k].name) (.agg [.lit (.string l[k].firm),.lit (.string l[k].pend)]));rw[← hsx.1,← hsx.2.1,← hsx.2.2];exact hown4)
        have HC4:=hid (HT.out.heapAt (show w3.drew.heap[w.heap.size+1]?=_ from hcell3) (by omega));have HB4:=hid (hb.trans ((HB3.out.mono hb.size).drew.trans (HT.out.below (B:=w.heap.size) (by show w.heap.size≤w3.heap.size;omega) (λk hk=>by omega)):RowKit.Below w.heap.size wr w4));clear hown4 hturn4 hown3 hcell3 hinv hsx hB hM hleq;go_wp2
        go_region
        go_wp2
        go_roundw
        case rel=>exact⟨k+1,x,by omega,by go_num,rfl,by rw[E.out.1];exact HN.out,HC4.out,HO4.out,HB4.out⟩
        case measure=>simp[intOf];omega
   ·obtain rfl:k=l.length:=by omega
    obtain⟨hok,hfs⟩:=hinv.ok rfl;rw[List.take_length]at hcell hown;have HOK:=hid hok;have HFS:=hid hfs;have hul:=ee hfs;have HC:=hid hcell;have HO:=hid hown;clear hok hfs hcell hown hinv
    go_wp2_with fail
    refine(eH wr (w.heap.size+1) w.heap.size ⟨l,cap,-1,false⟩ HC.out HO.out HFS.out).mono ?_;rintro e w3 ⟨rfl,hb3⟩;by_cases hfit:cap<(ec l:Int)
    ·go_wp2
     refine bodyPost_ret (v:=.tuple #[.pointer none,.int .i64 44]) (by simp[results,Tryz.results8,go_sem]) rfl ⟨hb.trans (hb3.mono hb.size),?_⟩;rw[show il cap l=(none,44)from by unfold il;rw[if_neg (by omega),HOK.out,if_neg (by simp),if_pos hfit]]
    ·go_wp2
     refine bodyPost_ret (v:=.tuple #[.pointer (some ⟨w.heap.size+1,0,none⟩),.int .i64 0]) (by simp[results,Tryz.results8,go_sem]) rfl ⟨hb.trans (hb3.mono hb.size),?_⟩;rw[show il cap l=(some ⟨l,cap,-1,false⟩,0)from by unfold il;rw[if_neg (by omega),HOK.out,if_neg (by simp),if_neg (by omega)]];exact⟨_,w.heap.size,by omega,by omega,rfl,(⟨HC.out,HO.out,⟨HFS.out,by show 0≤cap;omega,hc1,by show(ec l:Int)≤cap;omega,by show(-1:Int) ≤ -1;omega,by show(-1:Int)≤_;omega⟩⟩:IsDk wr _ _ _).pure hb3⟩
end
end Go.Proofs.YtaeakdichkhjaaaGreatDoor
namespace Go.Proofs
section
open Go.RowKit Go.Maps Go.Sort Go.Shelf
theorem Tryz.sortsX (m:Nat):AnyZ.SortsIn Tryz.prog Tryz.sortedX_ren Fence.wide m:=
 ⟨λblk off cap ss W hH hblk hsz=>callsIn_wide.2 (AnyM.slices_Sort_string Tryz.laysSlM6_f127 blk off cap ss W hH hblk hsz),
  λp cap W=>callsIn_wide.2 (AnyM.slices_Sort_string_none Tryz.laysSlM6_f127 p cap W)⟩
theorem Tryz.maps_Keys_X (mb:Option Nat)(W:World):CallsIn Fence.wide 5 Tryz.prog 91 #[.map mb] W λe w'=>e = .returned (.func (.func 128) #[] #[.pointer (some ⟨W.heap.size,0,none⟩)])∧w'=W.alloc (.cells #[.map mb] 76):=
 AnyZ.keys_in Tryz.keysX Fence.wide 5 trivial rfl mb W
theorem Tryz.slices_Sorted_keys_X {H:Type}(b nn:Nat)(D0:DataW H)(R:Value→Option (DataW H×List MemPlace))(w:World)(hown:w.ownsMap Tryz.prog 9 R b nn D0)(hmax:Maps.size D0≤maxLen)(hbytes:Maps.size D0*16≤140737488355328) :
  CallsIn Fence.wide 5 Tryz.prog 90 #[.func (.func 128) #[] #[.pointer (some ⟨w.heap.size,0,none⟩)]] (w.alloc (.cells #[.map (some b)] 76)) λe w'=>∃(v:Value) (ss:List (List UInt8)),e = .returned v∧ss.Perm (strKeys D0) ∧
   w'.ownsRow (w.alloc (.cells #[.map (some b)] 76)).heap.size 9 1 v ss.length ((ss.mergeSort (λx y=>decide (x≤y))).map encStr)∧(v = .slice none 0 0↔ss=[])∧Below (w.alloc (.cells #[.map (some b)] 76)).heap.size (w.alloc (.cells #[.map (some b)] 76)) w':=by
 have hbl:=hown.lt;have hseq:SeqGives Fence.wide 2 Tryz.prog 128 #[.pointer (some ⟨w.heap.size,0,none⟩)] encStr (λss=>ss.Perm (strKeys D0)) (Maps.size D0) (w.alloc (.cells #[.map (some b)] 76)):=
  AnyZ.keys_gives (ρ:=Tryz.keysX_ren) { Tryz.keysX with } Fence.wide _ trivial rfl (by omega) w.heap.size b nn D0 _ (by simp) (by simp) (by
   obtain⟨es,clock,hb,Ft,hs,hD⟩:=hown;exact⟨es,clock,(Below.heap_alloc _ _ b hbl).trans hb,Ft,hs,hD⟩)
 exact AnyZ.sorted_in Tryz.sortedX Fence.wide 5 trivial trivial trivial trivial rfl (by omega) (Tryz.sortsX _) (enters_of Tryz.func127 (by kernel_rfl) rfl) 128 #[.pointer (some ⟨w.heap.size,0,none⟩)] trivial (enters_of Tryz.func128 (by kernel_rfl) rfl) _ _ hmax hbytes _ hseq
end
end Go.Proofs
namespace Go.Proofs.YtaeakdichkhjaaaGreatDoor
section
open Go.RowKit Go.Maps Go.Sort Go.Shelf
theorem iy (fs:Fs):strKeys (fsD fs)=fs.map (·.name):=by
 show(fs.map dI).map (λp=>strOf p.1)=_;rw[List.map_map];rfl
theorem iz {fs:Fs}(hs:fs.Pairwise (λf g=>bytesBefore f.name g.name=true)){ss:List (List UInt8)}(hp:ss.Perm (fs.map (·.name))):ss.mergeSort (λx y=>decide (x≤y))=fs.map (·.name):=by
 refine List.Perm.eq_of_pairwise (le:=λx y=>x≤y) (λa b _ _ h1 h2=>List.le_antisymm h1 h2) ?_ ?_ ((List.mergeSort_perm _ _).trans hp)
 ·have:=List.pairwise_mergeSort (le:=λ(x y:List UInt8)=>decide (x≤y)) (λa b c h1 h2=>by simp only[decide_eq_true_eq]at *;exact List.le_trans h1 h2) (λa b=>by simpa using List.le_total a b) ss
  exact this.imp (λh=>by simpa using h)
 ·rw[List.pairwise_map]
  refine hs.imp λ{a b} h=>?_;have h1:Op.bytesLess a.name b.name=true:=by rw[ip];exact h
  rw[bytesLess_eq]at h1;exact List.le_of_lt (of_decide_eq_true h1)
set_option maxRecDepth 100000 in
theorem iA (w:World)(p b:Nat)(st:DkSt)(h:IsDk w p b st) :
  Calls Tryz.prog 51 #[.pointer (some ⟨p,0,none⟩)] w λe w'=>∃v,e = .returned v∧w'.ownsRow w.heap.size 9 1 v st.fs.length ((st.fs.map (·.name)).map encStr)∧Below w.heap.size w w':=by
 have H:=hid h;obtain⟨c0,c1,c2,c3⟩:=h.cs;clear h
 go_enter Tryz.func51,Tryz.ntmps51
 go_wp2_with fail
 refine(callsIn_wide.1 (Tryz.maps_Keys_X (some b) w)).mono ?_;rintro e w1 ⟨rfl,rfl⟩
 go_wp2_with fail
 have hf:=H.out.ok.fs.few;have hb:=(Below.refl w.heap.size w).alloc (Nat.le_refl _) (.cells #[.map (some b)] 76);refine(callsIn_wide.1 (Tryz.slices_Sorted_keys_X b st.fs.length (fsD st.fs) dJ w H.out.own (by rw[dZ];unfold maxLen;omega) (by rw[dZ];omega))).mono ?_;rintro e w2 ⟨v,ss,rfl,hp,hown,_,hb2⟩;have HO:=hid hown;have HP:=hid hp;have HB:=hid (hb.trans (hb2.mono (by simp)));clear hown hp hb hb2;go_wp2;go_ret;rw[iy]at HP;have hl:=HP.out.length_eq;have ho:=HO.out;rw[iz H.out.ok.fs.sorted HP.out,hl,List.length_map]at ho;exact⟨v,rfl,aF ho (λg hg=>by
  obtain⟨_,hx|⟨g',cap,cur,e1,h2,_⟩⟩:=ho
  ·rw[hx.1]at hg;cases hg
  ·rw[e1]at hg;cases hg;simp at h2;show w.heap.size≤g';omega),HB.out⟩
end
end Go.Proofs.YtaeakdichkhjaaaGreatDoor
