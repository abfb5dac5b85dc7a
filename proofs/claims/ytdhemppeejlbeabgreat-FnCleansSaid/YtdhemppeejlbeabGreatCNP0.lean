/- Drawn devices that are cleaned. No condition; no program is in sight. -/
import Derived.Test.YtdhemppeejlbeabGreatCND
set_option linter.unusedVariables false
set_option linter.unusedSimpArgs false
namespace Go.TI
open Go
def u32 (s:Int):Prop:=0<=s/\s<4294967296
theorem qG (s:Int) (hs:u32 s):∃v,Ar (λs:Int×Int=>Jg s.1 s.2) (s,0)=some v/\Ar (λs:Int×Int=>Jt s.1 s.2) (s,0)=some v/\u32 v:=
 JK (body:=λs:Int×Int=>Jg s.1 s.2) (body':=λs:Int×Int=>Jt s.1 s.2) (λ(s:Int) i=>(s,i)) 8 (λ_ s=>u32 s) u32
  (λs i hi hs=>by
   simp only[Jg,Jt];rw[Ad (by omega:(i:Int)<8),Ae,Ae,an1 hs.1 hs.2,<-AC1 hs.1 hs.2];refine⟨rfl,.inl ?_⟩;have hw:u32 (IntKind.u32.wrap (Int.tdiv s 2)):=by rw[IntKind.wrap_u32];constructor<;>omega
   cases Int.tmod s 2==1
   ·exact⟨_,by rw[Ac,ad1 (by omega)],hw⟩
   exact⟨_,by rw[Ae,ad1 (by omega)],ABE _ _⟩)
  (λs hs=>by
   simp only[Jg,Jt]
   exact⟨rfl,s,rfl,hs⟩) (s:=s) hs
theorem qF (s:Int) (t:ByteArray) (hs:u32 s) (ht:(L t).length<=9223372036854775806):∃v,Sl s t=some v/\S1 s t=some v/\u32 v:=by
 obtain⟨v,h1,h2,h3⟩:=JK (body:=λs:Int×Int=>KC t s.1 s.2) (body':=λs:Int×Int=>KS t s.1 s.2) (λ(s:Int) i=>(s,i)) (L t).length (λ_ s=>u32 s) u32
  (λs i hi hs=>by
   obtain⟨v,h1,h2,h3⟩:=qG (xr s (IntKind.u32.wrap ((L t)[i]).toNat)) (ABE _ _);simp only[KC,KS];rw[Ad (by rw[BN];omega:(i:Int)<FY t),Ae,Ae,Fu t hi,Aa,Aa,h1,h2]
   exact⟨rfl,.inl ⟨v,by rw[Aa,ad1 (by omega)],h3⟩⟩)
  (λs hs=>by
   simp only[KC,KS];rw[Af (by rw[BN];omega:¬((L t).length:Int)<FY t),Ac,Ac]
   exact⟨rfl,s,rfl,hs⟩) (s:=s) hs
 unfold Sl S1;rw[h1,h2];exact⟨v,rfl,rfl,h3⟩
theorem nA (t:ByteArray) (ht:(L t).length<=9223372036854775806):∃v,Oq t=some v/\XJ t=some v/\u32 v:=by
 obtain⟨v,h1,h2,h3⟩:=qF 4294967295 t ⟨by omega,by omega⟩ ht;unfold Oq XJ;rw[h1,h2];exact⟨v,rfl,rfl,h3⟩
def four (v:Int):ByteArray:=EX [IntKind.u8.wrap (Int.fdiv v (2^(min (24:Int).toNat IntKind.u32.bits))),IntKind.u8.wrap (Int.fdiv v (2^(min (16:Int).toNat IntKind.u32.bits))),IntKind.u8.wrap (Int.fdiv v (2^(min (8:Int).toNat IntKind.u32.bits))),IntKind.u8.wrap v]
theorem Vj (v:Int):(L (four v)).length=4:=by rw[four,Kd];rfl
theorem eY (t:ByteArray):IN t=KD t:=by
 unfold IN KD;by_cases h:(FY t)>20000
 ·rw[Ad h];rfl
 rw[Af h,Ac,Ac];rw[BN]at h;obtain⟨v,h1,h2,_⟩:=nA t (by omega);rw[h1,h2];rfl
theorem SK (t:ByteArray):(20000<(L t).length->KD t=some (bs [],false))/\((L t).length<=20000->∃v,Oq t=some v/\KD t=some (t++four v,true)):=by
 unfold KD;rw[BN];refine⟨λh=>by rw[Ad (by omega),Ae],λh=>?_⟩;obtain⟨v,h1,h2,_⟩:=nA t (by omega);rw[Af (by omega),Ac,h1];refine⟨v,rfl,?_⟩;have:Lz v=some (four v):=rfl;rw[Aa,this,Aa,Gc _ _ (by rw[Vj];omega),Aa]
theorem m8 (t:ByteArray) (ht:(L t).length<=9223372036854775806):∃u ok,L3 t=some (u,ok)/\Ql t=some (u,ok)/\(ok=true->(L u).length<=20000/\∃v,Oq u=some v/\t=u++four v)/\(ok=false->u=bs []):=by
 unfold L3 Ql;have e4:sb (FY t) 4=((L t).length:Int)-4:=by rw[BN,Cx (by omega) (by omega)]
 rw[e4];by_cases h4:(L t).length<4
 ·rw[Ad (by omega:((L t).length:Int)-4<0),Ad (by rw[BN];omega:FY t<4)];exact⟨bs [],false,rfl,rfl,by simp,λ_=>rfl⟩
 rw[Af (by omega:¬((L t).length:Int)-4<0),Af (by rw[BN];omega:¬FY t<4)];simp only[Ac];have en:((L t).length:Int)-4=(((L t).length-4:Nat):Int):=by omega
 rw[en,BN];have b:sub t 0 (((L t).length-4:Nat):Int)=some (t.extract 0 ((L t).length-4)):=FV t (i:=0) (by omega) (by omega);have a:sub t (((L t).length-4:Nat):Int) ((L t).length:Int)=some (t.extract ((L t).length-4) (L t).length):=FV t (by omega) (by omega);rw[b,a];simp only[Aa];have hu:(L (t.extract 0 ((L t).length-4))).length=(L t).length-4:=by rw[IX];simp
 obtain⟨k1,k2⟩:=SK (t.extract 0 ((L t).length-4));rw[eY];by_cases hb:20000<(L t).length-4
 ·rw[Ad (by omega:(((L t).length-4:Nat):Int)>20000),k1 (by omega)];exact⟨bs [],false,rfl,rfl,by simp,λ_=>rfl⟩
 obtain⟨v,h1,h2⟩:=k2 (by omega);rw[Af (by omega:¬(((L t).length-4:Nat):Int)>20000),h1,h2];have h3:Lz v=some (four v):=rfl;simp only[Ac,Aa,h3,Aj];have c:seq (t.extract ((L t).length-4) (L t).length) (four v)=seq (t.extract 0 ((L t).length-4)++four v) t:=by
  rw[Ro,Ro,DG,IX,IX,Ea,A6,A6];have e1:List.take ((L t).length-((L t).length-4)) (List.drop ((L t).length-4) (L t))=(L t).drop ((L t).length-4):=AS (by simp);have e2:List.take ((L t).length-4-0) (List.drop 0 (L t))=(L t).take ((L t).length-4):=by simp
  rw[e1,e2];constructor
  ·intro h;rw[<-h,B6]
  intro h;have h':(L t).take ((L t).length-4)++L (four v)=(L t).take ((L t).length-4)++(L t).drop ((L t).length-4):=by rw[B6];exact h
  exact(List.append_cancel_left h').symm
 rw[c]
 cases hs:seq (t.extract 0 ((L t).length-4)++four v) t with
 |false=>exact⟨bs [],false,rfl,rfl,by simp,λ_=>rfl⟩
 |true=>
  rw[JA,A6]at hs;exact⟨_,true,rfl,rfl,λ_=>⟨by omega,v,h1,hs.symm⟩,by simp⟩
theorem Jn (n:Nat) (h:n<=1099511627776):∃s,HL (n:Int)=some s/\L s=C6 n:=by
 unfold HL;obtain⟨m,o,h1,h2,h3,h4⟩:=eJ (body:=λs:Int×List Int=>I9 s.1 s.2) (λ_ _=>rfl) n [] (by simpa using h);rw[h1,Aa];have:IntKind.u8.wrap (m:Int)=m:=by rw[IntKind.wrap_u8];omega
 rw[this,Cg (by simp only[Ak,Bp]at h3⊢;omega),Aa];refine⟨_,rfl,?_⟩;rw[Kd,h4];simp
def ABJ (t:ByteArray) (at_:Int) (r:Int×Int×Bool):Prop:=(r.2.2=false/\r.1=0/\r.2.1=0)\/(r.2.2=true/\∃(a b n:Nat),at_=a/\r.2.1=b/\r.1=n/\a<b/\b<=(L t).length/\n<=1000000000/\C6 n=((L t).drop a).take (b-a))
theorem Yi (l:List UInt8) (a k:Nat) (h:a+k<l.length):(l.drop a).take (k+1)=(l.drop a).take k++ [l[a+k]]:=by
 rw[Aq (by simp;omega),TT]
theorem gM (k:Nat) (h:k<5):(128:Nat)^k<=268435456:=by
 have:k<=4:=by omega
 calc 128^k<=128^4:=Nat.pow_le_pow_right (by omega) this
  _=268435456:=by decide
theorem X5:∀ds:List UInt8,FC ds<128^ds.length
 |[]=>by simp[FC]
 |d::ds=>by
  have:=X5 ds;simp only[FC,Ay,Xy];omega
theorem AAC (x k:Nat) (hx:x<128) (hk:k<5):shl .i64 (x:Int) (ml 7 (k:Int))=some ((x*128^k:Nat):Int):=by
 have h7:ml 7 (k:Int)=((7*k:Nat):Int):=by rw[Pn (by omega) (by omega)];omega
 unfold shl;rw[h7,Az (by omega)];have e:(2:Int)^(min ((7*k:Nat):Int).toNat IntKind.i64.bits)=((128^k:Nat):Int):=by
  have hb:IntKind.i64.bits=64:=rfl;have h128:(128:Nat)^k=2^(7*k):=by rw[Nat.pow_mul]
  rw[hb,Bh,Nat.min_eq_left (by omega),h128]
  norm_cast
 rw[e];have hp:=gM k hk;have hm:x*128^k<=128*268435456:=bZ (by omega) hp;have ec:(x:Int)*((128^k:Nat):Int)=((x*128^k:Nat):Int):=by norm_cast
 rw[ec,OV (by omega) (by omega)]
theorem fI (x:Nat):Int.tmod (x:Int) 128=((x %128:Nat):Int):=rfl
theorem IT (t:ByteArray) (at_:Int) (ht:(L t).length<=4611686018427387904) (p:oI at_):∃r,Ko t at_=some r/\Ky t at_=some r/\ABJ t at_ r:=by
 have fails:∀(at_:Int),(at_<0\/((L t).length:Int)<=at_)->oI at_->Ky t at_=some (0,0,false):=by
  intro at_ h p;unfold Ky;rw[A8];simp only[HH];rw[Ad (by omega:(0:Int)<5),Ae];by_cases h0:at_>=0
  ·rw[Ad h0,Ae,BN,Cx (by omega) (by omega),Af (by omega)];rfl
  rw[Af h0];rfl
 by_cases h5:0<=at_/\at_<(L t).length
 ·obtain⟨a,rfl⟩:=C9 h5.1;have ha:a<(L t).length:=by omega
  have h6:∀(B1:Int×Int×Int->Option ((Int×Int×Int)⊕Unit⊕(Int×Int×Bool))) (B2:Int×Int->Option ((Int×Int)⊕Unit⊕(Int×Int×Bool))),(∀n sc i,B1 (n,sc,i)=DW t (a:Int) n sc i)->(∀n k,B2 (n,k)=HH t (a:Int) n k)->∀(m k:Nat),k+m=5->a+k<=(L t).length->(∀d∈((L t).drop a).take k,128<=d.toNat)->
    ∃r,(Ar B1 (((FC (((L t).drop a).take k):Nat):Int),((128^k:Nat):Int),((a+k:Nat):Int))=some r/\Ar B2 (((FC (((L t).drop a).take k):Nat):Int),(k:Int))=some r)/\(r= .inl ()\/∃q,r= .inr q/\ABJ t (a:Int) q):=by
   intro B1 B2 u v m
   induction m with
   |zero=>
    intro k hk h7 hd;have f:k=5:=by omega
    subst f;refine⟨.inl (),⟨?_,?_⟩,.inl rfl⟩
    ·rw[A8];simp only[u,DW];rw[CD (by omega) (by omega),Af (by omega:¬((a+5:Nat):Int)<(a:Int)+5)];cases decide (((a+5:Nat):Int)<FY t)<;>rfl
    rw[A8];simp only[v,HH];rw[Af (by omega:¬((5:Nat):Int)<5)];rfl
   |succ m ih=>
    intro k hk h7 hd;rw[A8,A8 B2];simp only[u,v,DW,HH];have f:k<5:=by omega
    rw[CD (b:=5) (by omega) (by omega),Ad (by omega:((a+k:Nat):Int)<(a:Int)+5),Ad (by omega:(k:Int)<5),Ad (by omega:(a:Int)>=0),BN,Cx (by omega) (by omega)];by_cases w:a+k<(L t).length
    ·rw[Ad (by omega:((a+k:Nat):Int)<((L t).length:Int)),Ad (by omega:(a:Int)<((L t).length:Int)-k)];have eak:ad (a:Int) (k:Int)=((a+k:Nat):Int):=by rw[CD (by omega) (by omega)];omega
     simp only[Ae,Aa,Fu t w,eak];have hx:=jN ((L t)[a+k]);have g:=Yi (L t) a k w;have l:(((L t).drop a).take k).length=k:=by simp;omega
     have j:=Oh (((L t).drop a).take k) [(L t)[a+k]];rw[<-g,l]at j;have h8:=X5 (((L t).drop a).take k);rw[l]at h8;have hp:=gM k f;generalize a4:(L t)[a+k]=x at hx g j;simp only[FC,Nat.mul_zero,GO]at j;have hw:IntKind.i64.wrap (x.toNat:Int)=x.toNat:=OV (by omega) (by omega);have a2:x.toNat %128*128^k<=127*268435456:=bZ (by omega) hp;have emul:ml ((x.toNat %128:Nat):Int) ((128^k:Nat):Int)=((x.toNat %128*128^k:Nat):Int):=by
      have ec:((x.toNat %128:Nat):Int)*((128^k:Nat):Int)=((x.toNat %128*128^k:Nat):Int):=by norm_cast
      rw[Pn (by rw[ec];omega) (by rw[ec];omega),ec]
     have enew:ad (((FC (((L t).drop a).take k):Nat)):Int) ((x.toNat %128*128^k:Nat):Int)=((FC (((L t).drop a).take (k+1)):Nat):Int):=by
      rw[CD (by omega) (by omega),j,qM (128^k)];omega
     rw[hw,fI,AAC _ k (by omega) f];simp only[Aa,emul,enew];by_cases o:x.toNat<128
     ·rw[Ad (by omega:(x.toNat:Int)<128),Af (by omega:¬(x.toNat:Int)>=128)];simp only[Ae,Ac];have ek1:ad ((a+k:Nat):Int) 1=((a+k+1:Nat):Int):=ad1 (by omega);have c:=eI (((L t).drop a).take k) x hd o;rw[<-g]at c;have h9:(((L t).drop a).take k≠ [])↔0<k:=by
       rw[<-Jb,l]
      rw[h9]at c;have y:sub t (a:Int) ((a+k+1:Nat):Int)=some (t.extract a (a+k+1)):=FV t (by omega) (by omega);rw[ek1,y];by_cases a3:FC (((L t).drop a).take (k+1))>1000000000
      ·rw[Ad (by omega:((FC (((L t).drop a).take (k+1)):Nat):Int)>1000000000)];refine⟨.inr (0,0,false),⟨rfl,?_⟩,.inr ⟨_,rfl,.inl ⟨rfl,rfl,rfl⟩⟩⟩;cases(x.toNat:Int)==0
       ·rfl
       cases decide ((k:Int)>0)<;>rfl
      rw[Af (by omega:¬((FC (((L t).drop a).take (k+1)):Nat):Int)>1000000000)];obtain⟨s,a0,a1⟩:=Jn (FC (((L t).drop a).take (k+1))) (by omega);simp only[Ac,Aa,a0];have z:seq s (t.extract a (a+k+1))=decide (¬(x.toNat=0/\0<k)):=by
       rw[Ro,a1,IX,show a+k+1-a=k+1 by omega,Ea,A6,A6];exact c
      rw[z];by_cases hz:x.toNat=0/\0<k
      ·rw[Af (λe=>e hz)];refine⟨.inr (0,0,false),⟨rfl,?_⟩,.inr ⟨_,rfl,.inl ⟨rfl,rfl,rfl⟩⟩⟩;have:((x.toNat:Int)==0)=true:=by rw[hz.1];rfl
       rw[this,Ad (by omega:(k:Int)>0)];rfl
      rw[Ad hz];refine⟨.inr (((FC (((L t).drop a).take (k+1)):Nat):Int),((a+k+1:Nat):Int),true),⟨rfl,?_⟩,.inr ⟨_,rfl,.inr ⟨rfl,a,a+k+1,_,rfl,rfl,rfl,by omega,by omega,by omega,?_⟩⟩⟩
      ·by_cases h4:x.toNat=0
       ·have:((x.toNat:Int)==0)=true:=by rw[h4];rfl
        rw[this,Af (by omega:¬(k:Int)>0)];rfl
       have:((x.toNat:Int)==0)=false:=by simpa using h4
       rw[this];rfl
      rw[show a+k+1-a=k+1 by omega];exact c.2 hz
     rw[Af (by omega:¬(x.toNat:Int)<128),Ad (by omega:(x.toNat:Int)>=128)];simp only[Ae,Ac];have e1:ml ((128^k:Nat):Int) 128=((128^(k+1):Nat):Int):=by
      rw[Pn (by omega) (by omega),Xy];norm_cast
     have e2:ad ((a+k:Nat):Int) 1=((a+(k+1):Nat):Int):=ad1 (by omega);have e3:ad (k:Int) 1=((k+1:Nat):Int):=ad1 (by omega);rw[e1,e2,e3]
     exact ih (k+1) (by omega) (by omega) (by
      rw[g];intro d hd'
      rcases Ai.1 hd' with hd'|hd'
      ·exact hd d hd'
      simp at hd';subst hd';omega)
    rw[Af (by omega:¬((a+k:Nat):Int)<((L t).length:Int)),Af (by omega:¬(a:Int)<((L t).length:Int)-k)];exact⟨.inl (),⟨rfl,rfl⟩,.inl rfl⟩
  obtain⟨r,⟨h1,h2⟩,h3⟩:=h6 (λs=>DW t (a:Int) s.1 s.2.1 s.2.2) (λs=>HH t (a:Int) s.1 s.2) (λ_ _ _=>rfl) (λ_ _=>rfl) 5 0 rfl (by omega) (by simp);unfold Ko Ky;have hw:Cf (a:Int) 0 (FY t)=some true:=by
   unfold Cf;rw[Ad (by omega:(a:Int)>=0),Ae,BN,Ad (by omega)]
  rw[hw];simp only[Aa,Aj,Ac];simp only[J4,FC,Nat.pow_zero,GO]at h1 h2;rw[show((0:Nat):Int)=0 from rfl,show((1:Nat):Int)=1 from rfl]at h1;rw[show((0:Nat):Int)=0 from rfl]at h2;rw[h1,h2]
  rcases h3 with rfl|⟨q,rfl,h3⟩
  ·exact⟨_,rfl,rfl,.inl ⟨rfl,rfl,rfl⟩⟩
  exact⟨q,rfl,rfl,h3⟩
 have hf:=fails at_ (by omega) p;refine⟨(0,0,false),?_,hf,.inl ⟨rfl,rfl,rfl⟩⟩;unfold Ko;by_cases h0:0<=at_/\at_<=(L t).length
 ·have hw:Cf at_ 0 (FY t)=some true:=by
   unfold Cf;rw[Ad (by omega:at_>=0),Ae,BN,Ad (by omega)]
  rw[hw];simp only[Aa,Aj,Ac];rw[A8];simp only[DW];rw[Af (by rw[BN];omega:¬at_<FY t)];rfl
 have hw:Cf at_ 0 (FY t)=some false:=by
  unfold Cf;by_cases h1:at_>=0
  ·rw[Ad h1,Ae,BN,Af (by omega)]
  rw[Af h1,Ac]
 rw[hw];rfl
theorem Z6:Il=Cf:=rfl
variable {r n x:Int} {R:List Int} {i s j:Nat} {α γ:Type} {p:Nat->Bool} {l:List α}
theorem Dk {i:Int} {x:α} (h:gi l i=some x):0<=i/\l[i.toNat]?=some x:=by
 unfold gi at h;split at h
 ·exact⟨by assumption,h⟩
 cases h
theorem Q6:Nq=Gl:=by
 have h2:Nc=Ey:=by
  funext x y;unfold Nc Ey
  cases decide (y<ln x.Leaves)with
  |false=>rfl
  |true=>
   simp only[Ae]
   cases gi x.Leaves y with
   |none=>rfl
   |some z=>rfl
 funext f;unfold Nq Gl;have:Nd f=Ez f:=by
  funext i;unfold Nd Ez;rw[h2];rfl
 rw[this];rfl
def Kb (f:Flash):Prop:=f.Blocks.length<=1048576/\∀b∈f.Blocks,b.Leaves.length<=1048576
theorem QQ (x a b:Int):Cf x a b=some (decide (a<=x)&&decide (x<=b)):=by
 unfold Cf;by_cases h:x>=a
 ·rw[Ad h,Ae,Cz]
 rw[Af h,Ac,Bool.false_and]
theorem AA3 (x:Leaf):∃v,Nl x=some v:=by
 unfold Nl;cases x.Is==0
 ·simp only[Ac];cases x.Is==1
  ·simp only[Ac];cases x.Is==2<;>exact⟨_,rfl⟩
  simp only[Ae,QQ,Aa];exact⟨_,rfl⟩
 exact⟨_,rfl⟩
theorem TR (f:Flash) (h:Kb f):∃v,Gl f=some v/\(v=true->f.Blocks.length<=10/\∀b∈f.Blocks,b.Leaves.length=4):=by
 have a:=Bb (body:=λs:Int=>Ez f s) (λ(_:Unit) i=>i) f.Blocks.length (λi _=>∀j b,j<i->f.Blocks[j]?=some b->b.Leaves.length=4) (λr=>r= .inr false\/r= .inl ()/\∀b∈f.Blocks,b.Leaves.length=4)
  (λs i hi hs=>by
   obtain⟨x,hx⟩:∃x,f.Blocks[i]?=some x:=⟨_,Ab hi⟩;have hM:=h.1;have hL:=h.2 x (A5 hx);simp only[Ez,A7,Ad hi,Ae,A9,hx,Aa,QQ];by_cases h4:x.Leaves.length=4
   ·have e1:(ln x.Leaves !=4)=false:=by simp[ln,h4]
    simp only[e1,Ac,Aa]
    cases hw:(decide (0<=x.Wear)&&decide (x.Wear<=1000000000))with
    |false=>exact .inr ⟨_,rfl,.inl rfl⟩
    |true=>
     simp only[Aj,Ac];obtain⟨r,h5,h6⟩:=Bb (body:=λs:Int=>Ey x s) (λ(_:Unit) i=>i) x.Leaves.length (λ_ _=>True) (λr=>r= .inl ()\/r= .inr (.inr (.inr false)))
      (λs k hk _=>by
       obtain⟨y,hy⟩:∃y,x.Leaves[k]?=some y:=⟨_,Ab hk⟩;obtain⟨v,hv⟩:=AA3 y;simp only[Ey,A7,Ad hk,Ae,A9,hy,Aa,hv];have fin:∀j:Bool,(∃s':Unit,(bif j then some (.inr (.inr (.inr (.inr false))))else some (.inl (ad (k:Int) 1)):Option (Int⊕Unit⊕Int⊕Unit⊕Bool))=some (.inl (((k+1:Nat)):Int))/\True)\/∃b,(bif j then some (.inr (.inr (.inr (.inr false))))else some (.inl (ad (k:Int) 1)):Option (Int⊕Unit⊕Int⊕Unit⊕Bool))=some (.inr b)/\(b= .inl ()\/b= .inr (.inr (.inr false))):=by
        intro j
        cases j with
        |true=>exact .inr ⟨_,rfl,.inr rfl⟩
        |false=>exact .inl ⟨(),by rw[Ac,ad1 (by omega)],trivial⟩
       cases v with
       |false=>exact fin true
       |true=>
        simp only[Aj,Ac];by_cases c:0<k
        ·rw[Ad (by omega:(k:Int)>0),Ae,Cx (by omega) (by omega),Ln (by omega) (by omega),Aa];cases(x.Leaves[((k:Int)-1).toNat]'(by omega)).Is==0
         ·exact fin false
         exact fin (y.Is !=0)
        rw[Af (by omega:¬(k:Int)>0)]
        exact fin false)
      (λs _=>⟨_,by simp only[Ey,A7,Al,Ap,Ac],.inl rfl⟩) (s:=()) trivial
     rw[h5,Aa]
     rcases h6 with rfl|rfl
     ·refine .inl ⟨(),by rw[Bn,ad1 (by omega)],?_⟩;intro j b hj hb;by_cases e:j=i
      ·subst e;rw[hx]at hb;injection hb with hb;rw[<-hb];exact h4
      exact hs j b (by omega) hb
     exact .inr ⟨_,rfl,.inl rfl⟩
   have e1:(ln x.Leaves !=4)=true:=by simp[ln];omega
   simp only[e1,Ae,Aa]
   exact .inr ⟨_,rfl,.inl rfl⟩)
  (λs hs=>⟨_,by simp only[Ez,A7,Al,Ap,Ac],.inr ⟨rfl,λb hb=>by
   obtain⟨j,hj,e⟩:=AG hb
   exact hs j b hj (by rw[<-e];exact Ab hj)⟩⟩) (s:=()) (λj b hj=>absurd hj (by omega))
 obtain⟨r,h1,h2⟩:=a;unfold Gl;rw[h1,Aa]
 rcases h2 with rfl|⟨rfl,h2⟩
 ·exact⟨false,rfl,by simp⟩
 simp only[Bn,QQ,Aa];refine⟨_,rfl,λe=>⟨?_,h2⟩⟩;rw[An,A6,A6,BM]at e;omega
theorem SL (p:Page):∃v,KG p=some v/\RK p=some v/\(v=true->(p.Kind=1\/p.Kind=2)/\(1<=p.Seq/\p.Seq<=1000000000)/\(1<=p.Tx/\p.Tx<=1000000000)/\(1<=p.Count/\p.Count<=9)/\(0<=p.Part/\p.Part<p.Count)/\FY p.Text<=90):=by
 unfold KG RK;rw[Z6];simp only[QQ,Aa];by_cases h1:1<=p.Seq/\p.Seq<=1000000000
 ·by_cases h2:1<=p.Tx/\p.Tx<=1000000000
  ·by_cases h3:1<=p.Count/\p.Count<=9
   ·have e:sb p.Count 1=p.Count-1:=Cx (by omega) (by omega);rw[e];by_cases h4:0<=p.Part/\p.Part<=p.Count-1
    ·by_cases h5:FY p.Text>90
     ·refine⟨false,?_,?_,by simp⟩
      ·cases hk:(decide (1<=p.Kind)&&decide (p.Kind<=2))<;>simp[h1,h2,h3,h4,h5]
      simp[h1,h2,h3,h4,h5]
     by_cases k2:p.Kind=2
     ·exact⟨true,by simp[h1,h2,h3,h4,h5,k2],by simp[h1,h2,h3,h4,h5,k2],λ_=>⟨.inr k2,h1,h2,h3,⟨h4.1,by omega⟩,by omega⟩⟩
     by_cases k1:p.Kind=1
     ·exact⟨p.Count==1,by simp[h1,h2,h3,h4,h5,k1],by simp[h1,h2,h3,h4,h5,k1],λ_=>⟨.inl k1,h1,h2,h3,⟨h4.1,by omega⟩,by omega⟩⟩
     have hk:(decide (1<=p.Kind)&&decide (p.Kind<=2))=false:=by
      rw[Dp,Bc,Bc];omega
     have e1:(p.Kind==1)=false:=by simpa using k1
     have e2:(p.Kind==2)=false:=by simpa using k2
     exact⟨false,by simp[hk],by simp[h1,h2,h3,h4,h5,e1,e2],by simp⟩
    have e4:(decide (0<=p.Part)&&decide (p.Part<=p.Count-1))=false:=by
     rw[Dp,Bc,Bc];omega
    refine⟨false,?_,?_,by simp⟩
    ·cases hk:(decide (1<=p.Kind)&&decide (p.Kind<=2))<;>simp[h1,h2,h3,e4]
    simp[h1,h2,h3,e4]
   have e3:(decide (1<=p.Count)&&decide (p.Count<=9))=false:=by
    rw[Dp,Bc,Bc];omega
   refine⟨false,?_,?_,by simp⟩
   ·cases hk:(decide (1<=p.Kind)&&decide (p.Kind<=2))<;>simp[h1,h2,e3]
   simp[h1,h2,e3]
  have e2:(decide (1<=p.Tx)&&decide (p.Tx<=1000000000))=false:=by
   rw[Dp,Bc,Bc];omega
  refine⟨false,?_,?_,by simp⟩
  ·cases hk:(decide (1<=p.Kind)&&decide (p.Kind<=2))<;>simp[h1,e2]
  simp[h1,e2]
 have e1:(decide (1<=p.Seq)&&decide (p.Seq<=1000000000))=false:=by
  rw[Dp,Bc,Bc];omega
 refine⟨false,?_,?_,by simp⟩
 ·cases hk:(decide (1<=p.Kind)&&decide (p.Kind<=2))<;>simp[e1]
 simp[e1]
def dS:Page:=Page.mk 0 0 0 0 0 (bs [])
theorem HG (u:ByteArray) (a:Int) (hu:(L u).length<=20000) (ha:oI a):D0 (EL.mk u a true)=some (0,EL.mk u a true):=by
 obtain⟨r,h1,_,_⟩:=IT u a (by omega) ha;unfold D0;simp only[h1,Aa,Ae]
theorem Ku {r:Int×Int×Bool} (u:ByteArray) (a:Int) (hu:(L u).length<=20000) (h:Ko u a=some r):D0 (EL.mk u a false)=some (cond r.2.2 (r.1,EL.mk u r.2.1 false) (0,EL.mk u a true)):=by
 unfold D0;simp only[h,Aa,Ac];cases r.2.2<;>rfl
theorem QB {a b:Nat} (l:List UInt8) (h:a<=b):l.drop a=(l.drop a).take (b-a)++l.drop b:=by
 have:=(B6 (b-a) (l.drop a)).symm;rw[CT,show a+(b-a)=b by omega]at this;exact this
theorem Xf (p:Page) (u:ByteArray) (k:UInt8) (n1 n2 n3 n4:Nat) (hp:KG p=some true) (hk:p.Kind=(k.toNat:Int)) (h1:p.Seq=n1) (h2:p.Tx=n2) (h3:p.Part=n3) (h4:p.Count=n4) (b1:n1<=1000000000) (b2:n2<=1000000000) (b3:n3<=1000000000) (b4:n4<=1000000000) (hu:(L u).length<=20000) (e:L u=[k]++C6 n1++C6 n2++C6 n3++C6 n4++L p.Text):EK p=KD u:=by
 obtain⟨s1,q1,r1⟩:=Jn n1 (by omega);obtain⟨s2,q2,r2⟩:=Jn n2 (by omega);obtain⟨s3,q3,r3⟩:=Jn n3 (by omega);obtain⟨s4,q4,r4⟩:=Jn n4 (by omega);have hl:=Cb List.length e;simp only[Ag,Ak]at hl;have hb:Ki p.Kind=some (EX [IntKind.u8.wrap p.Kind]):=rfl;have a:L (EX [IntKind.u8.wrap p.Kind])=[k]:=by
  rw[Kd,hk,IntKind.wrap_u8];have:=jN k;have e2:((k.toNat:Int) %256).toNat=k.toNat:=by omega
  simp only[BE,qN,e2,UInt8.ofNat_toNat]
 unfold EK;rw[hp];simp only[Aa,Aj,Ac,hb,h1,h2,h3,h4,q1,q2,q3,q4];rw[Gc _ _ (by rw[a,r1];simp only[Ak];omega),Aa];rw[Gc _ _ (by rw[DG,a,r1,r2];simp only[Ag,Ak];omega),Aa];rw[Gc _ _ (by rw[DG,DG,a,r1,r2,r3];simp only[Ag,Ak];omega),Aa];rw[Gc _ _ (by rw[DG,DG,DG,a,r1,r2,r3,r4];simp only[Ag,Ak];omega),Aa];rw[Gc _ _ (by rw[DG,DG,DG,DG,a,r1,r2,r3,r4];simp only[Ag,Ak];omega),Aa];have:EX [IntKind.u8.wrap p.Kind]++s1++s2++s3++s4++p.Text=u:=by
  apply IW;rw[DG,DG,DG,DG,DG,a,r1,r2,r3,r4,e]
 rw[this]
 cases KD u with
 |none=>rfl
 |some v=>rfl
theorem IU (t:ByteArray) (ht:(L t).length<=9223372036854775806):∃p ok,FL t=some (p,ok)/\Qr t=some (p,ok)/\(ok=false->p=dS)/\(ok=true->KG p=some true):=by
 obtain⟨u,uok,k,m,n,o⟩:=m8 t ht;unfold FL Qr;rw[k,m];simp only[Aa];have o1:oI 1:=⟨by omega,by omega⟩
 cases uok with
 |false=>
  have:=o rfl;subst this;have hz:(L (bs [])).length<=20000:=by rw[E7];simp
  simp only[AC,Ae,Aa,HG _ _ hz o1];exact⟨dS,false,rfl,rfl,λ_=>rfl,by simp⟩
 |true=>
  obtain⟨f,v,hv,q⟩:=n rfl;simp only[Aj,Ac,Aa];by_cases he:(L u).length<1
  ·have h:seq u (bs [])=true:=by
    rw[Ro,A6,E7];exact AF (by omega)
   rw[Ad (by rw[BN];omega:FY u<1),h];simp only[Ae,HG _ _ f o1,Aa];exact⟨dS,false,rfl,rfl,λ_=>rfl,by simp⟩
  have h:seq u (bs [])=false:=by
   rw[Ro,Bc,E7];intro e;rw[e]at he;simp at he
  rw[Af (by rw[BN];omega:¬FY u<1),h];simp only[Ac];have four_:∀(B:Int×Int×Int×Int×Int×Int->Option ((Int×Int×Int×Int×Int×Int)⊕(Int×Int×Int×Int×Int)⊕(Page×Bool))),(∀x y a b c d,B (x,y,a,b,c,d)=EV (u,true) x y a b c d)->
    ∃(a:Int) (m1 m2 m3 m4:Int) (bad:Bool),(∃c1 c2 c3,D0 (EL.mk u 1 false)=some (m1,c1)/\D0 c1=some (m2,c2)/\D0 c2=some (m3,c3)/\D0 c3=some (m4,EL.mk u a bad))/\
     Ar B (1,0,0,0,0,0)=some (bif bad then .inr (dS,false)else .inl (a,m1,m2,m3,m4))/\(bad=false->∃(a1 a2 a3 a4 n1 n2 n3 n4:Nat),m1=n1/\m2=n2/\m3=n3/\m4=n4/\a=a4/\1<a1/\a1<a2/\a2<a3/\a3<a4/\a4<=(L u).length/\n1<=1000000000/\n2<=1000000000/\n3<=1000000000/\n4<=1000000000/\
      C6 n1=((L u).drop 1).take (a1-1)/\C6 n2=((L u).drop a1).take (a2-a1)/\C6 n3=((L u).drop a2).take (a3-a2)/\C6 n4=((L u).drop a3).take (a4-a3)):=by
   intro B hB;obtain⟨r1,p1,q1,w1⟩:=IT u 1 (by omega) o1;have g1:=Ku u 1 f p1;rw[A8,hB];unfold EV;rw[Ad (by omega:(0:Int)<4),Ae,q1,Aa]
   rcases w1 with⟨w1,w2,w3⟩|⟨w1,a0',a1,n1,z0,z1,z2,z3,z4,z5,z6⟩
   ·rw[w1]at g1⊢;exact⟨1,0,0,0,0,true,⟨_,_,_,g1,HG u 1 f o1,HG u 1 f o1,HG u 1 f o1⟩,rfl,by simp⟩
   have ea0:a0'=1:=by omega
   subst ea0;rw[w1]at g1⊢;have x1:oI r1.2.1:=⟨by omega,by omega⟩;simp only[Aj,Ac,Ae]at g1⊢;rw[show((0:Int)==0)=true from rfl,Ae,show ad 0 1=1 from ad1 (i:=0) (by omega)];simp only;obtain⟨r2,p2,q2,y1⟩:=IT u r1.2.1 (by omega) x1;have g2:=Ku u r1.2.1 f p2;rw[A8,hB];unfold EV;rw[Ad (by omega:(1:Int)<4),Ae,q2,Aa]
   rcases y1 with⟨y1,_,_⟩|⟨y1,b0,a2,n2,y2,y3,y4,y5,y6,y7,y8⟩
   ·rw[y1]at g2⊢;exact⟨r1.2.1,r1.1,0,0,0,true,⟨_,_,_,g1,g2,HG u _ f x1,HG u _ f x1⟩,rfl,by simp⟩
   have eb:b0=a1:=by omega
   subst eb;rw[y1]at g2⊢;have x2:oI r2.2.1:=⟨by omega,by omega⟩;simp only[Aj,Ac,Ae]at g2⊢;rw[show((1:Int)==0)=false from rfl,Ac,show((1:Int)==1)=true from rfl,Ae,show ad 1 1=2 from ad1 (i:=1) (by omega)];simp only;obtain⟨r3,p3,q3,k1⟩:=IT u r2.2.1 (by omega) x2;have g3:=Ku u r2.2.1 f p3;rw[A8,hB];unfold EV;rw[Ad (by omega:(2:Int)<4),Ae,q3,Aa]
   rcases k1 with⟨k1,_,_⟩|⟨k1,c0,a3,n3,k2,k3,k4,k5,k6,k7,k8⟩
   ·rw[k1]at g3⊢;exact⟨r2.2.1,r1.1,r2.1,0,0,true,⟨_,_,_,g1,g2,g3,HG u _ f x2⟩,rfl,by simp⟩
   have ec:c0=a2:=by omega
   subst ec;rw[k1]at g3⊢;have x3:oI r3.2.1:=⟨by omega,by omega⟩;simp only[Aj,Ac,Ae]at g3⊢;rw[show((2:Int)==0)=false from rfl,Ac,show((2:Int)==1)=false from rfl,Ac,show((2:Int)==2)=true from rfl,Ae,show ad 2 1=3 from ad1 (i:=2) (by omega)];simp only;obtain⟨r4,p4,q4,l1⟩:=IT u r3.2.1 (by omega) x3;have g4:=Ku u r3.2.1 f p4;rw[A8,hB];unfold EV;rw[Ad (by omega:(3:Int)<4),Ae,q4,Aa]
   rcases l1 with⟨l1,_,_⟩|⟨l1,d0,a4,n4,l2,l3,l4,l5,l6,l7,l8⟩
   ·rw[l1]at g4⊢;exact⟨r3.2.1,r1.1,r2.1,r3.1,0,true,⟨_,_,_,g1,g2,g3,g4⟩,rfl,by simp⟩
   have ed:d0=a3:=by omega
   subst ed;rw[l1]at g4⊢;simp only[Aj,Ac,Ae]at g4⊢;rw[show((3:Int)==0)=false from rfl,Ac,show((3:Int)==1)=false from rfl,Ac,show((3:Int)==2)=false from rfl,Ac,show((3:Int)==3)=true from rfl,Ae,show ad 3 1=4 from ad1 (i:=3) (by omega)];simp only;rw[A8,hB];unfold EV;rw[Af (by omega:¬(4:Int)<4),Ac];exact⟨r4.2.1,r1.1,r2.1,r3.1,r4.1,false,⟨_,_,_,g1,g2,g3,g4⟩,rfl,λ_=>⟨b0,c0,d0,a4,n1,n2,n3,n4,z2,y4,k4,l4,l3,z3,y5,k5,l5,l6,z5,y7,k7,l7,z6,y8,k8,l8⟩⟩
  obtain⟨a,m1,m2,m3,m4,bad,⟨c1,c2,c3,f1,f2,f3,f4⟩,f5,f6⟩:=four_ (λs:Int×Int×Int×Int×Int×Int=>EV (u,true) s.1 s.2.1 s.2.2.1 s.2.2.2.1 s.2.2.2.2.1 s.2.2.2.2.2) (λ_ _ _ _ _ _=>rfl);rw[f5];simp only[f1,f2,f3,f4,Aa]
  cases bad with
  |true=>exact⟨dS,false,rfl,rfl,λ_=>rfl,by simp⟩
  |false=>
   obtain⟨a1,a2,a3,a4,n1,n2,n3,n4,rfl,rfl,rfl,rfl,rfl,i1,i2,i3,i4,i5,j1,j2,j3,j4,s1,s2,s3,s4⟩:=f6 rfl;simp only[Ac,Aa,Bn];have r:sx u 0=some (((L u)[0]'(by omega)).toNat:Int):=Fu u (i:=0) (by omega);have j:sub u (a4:Int) (FY u)=some (u.extract a4 (L u).length):=by rw[BN];exact FV u (by omega) (by omega)
   rw[r,j];simp only[Aa];have hk:=jN ((L u)[0]'(by omega));have hw:IntKind.i64.wrap (((L u)[0]'(by omega)).toNat:Int)=((L u)[0]'(by omega)).toNat:=OV (by omega) (by omega);rw[hw];obtain⟨po,po1,po2,_⟩:=SL (Page.mk (((L u)[0]'(by omega)).toNat:Int) n1 n2 n3 n4 (u.extract a4 (L u).length));rw[po2];simp only[Aa]
   cases po with
   |false=>
    have:EK (Page.mk (((L u)[0]'(by omega)).toNat:Int) n1 n2 n3 n4 (u.extract a4 (L u).length))=some (bs [],false):=by
     unfold EK;rw[po1];rfl
    rw[this];exact⟨dS,false,rfl,rfl,λ_=>rfl,by simp⟩
   |true=>
    have hT:L (u.extract a4 (L u).length)=(L u).drop a4:=by
     rw[IX];exact AS (by simp)
    have g:L u=[(L u)[0]'(by omega)]++C6 n1++C6 n2++C6 n3++C6 n4++L (u.extract a4 (L u).length):=by
     rw[hT,s1,s2,s3,s4];have h0:L u=[(L u)[0]'(by omega)]++(L u).drop 1:=by
      have:=Bf (l:=L u) (i:=0) (by omega);simpa using this
     have d1:=QB (L u) (a:=1) (b:=a1) (by omega);have d2:=QB (L u) (a:=a1) (b:=a2) (by omega);have d3:=QB (L u) (a:=a2) (b:=a3) (by omega);have d4:=QB (L u) (a:=a3) (b:=a4) (by omega);simp only[Au];rw[<-d4,<-d3,<-d2,<-d1];exact h0
    rw[Xf _ u ((L u)[0]'(by omega)) n1 n2 n3 n4 po1 rfl rfl rfl rfl rfl j1 j2 j3 j4 f g];obtain⟨v',hv',hs'⟩:=(SK u).2 f;rw[hv]at hv'
    injection hv' with hv'
    subst hv';rw[hs',Aa];have:seq (u++four v) t=true:=by rw[JA,A6];exact q.symm
    simp only[Aj,Ac,Aa,this];exact⟨_,true,rfl,rfl,by simp,λ_=>po1⟩
def OU (x:Leaf):Nat:=x.Text.size
def K4 (x:Block):Nat:=zl OU x.Leaves
def Nv (x:Flash):Nat:=zl K4 x.Blocks
theorem ABn (f:Flash) (h:Nv f<=1048576):Kb f/\∀b∈f.Blocks,∀x∈b.Leaves,(L x.Text).length<=1048576:=by
 have h1:=V6 (z:=K4) (l:=f.Blocks);unfold Nv at h;refine⟨⟨by omega,λb hb=>?_⟩,λb hb x hx=>?_⟩
 ·have h2:=fD (z:=K4) hb;have h3:=V6 (z:=OU) (l:=b.Leaves);have e:K4 b=zl OU b.Leaves:=rfl;omega
 have h2:=fD (z:=K4) hb;have h3:=fD (z:=OU) hx;have e:K4 b=zl OU b.Leaves:=rfl;have e2:OU x=x.Text.size:=rfl;rw[W1];omega
def nl (l:List Block):Nat:=(l.map λb=>b.Leaves.length).sum
theorem ADd (f:Flash):nl f.Blocks<=Nv f:=by
 unfold nl Nv zl;have:∀l:List Block,(l.map λb=>b.Leaves.length).sum<=(l.map K4).sum:=by
  intro l
  induction l with
  |nil=>simp
  |cons b l ih=>
   have:=V6 (z:=OU) (l:=b.Leaves);have e:K4 b=zl OU b.Leaves:=rfl;simp only[BE,FT];omega
 have:=this f.Blocks;omega
def RB (f:Flash) (y:A4):Prop:=∃b x,gi f.Blocks y.Block=some b/\gi b.Leaves y.Leaf=some x/\(x.Is==1)=true/\FL x.Text=some (y.Page,true)
theorem Xd {k:Nat} {b:Block} {x:Leaf} (f:Flash) (hf:Kb f) (hb:f.Blocks[i]?=some b) (hx:b.Leaves[k]?=some x):PL f i k=some (cond (x.Is==1) (x.Text,true) (bs [],false)):=by
 have h1:=(Ah.1 hb).1;have h2:=(Ah.1 hx).1;have h3:=hf.1;have h4:=hf.2 b (A5 hb);unfold PL;rw[Cx (by rw[BM];omega) (by rw[BM];omega),QQ,BM,Ad (by omega:(0:Int)<=(i:Int)),Ad (by omega:(i:Int)<=(f.Blocks.length:Int)-1)];simp only[Aa,GS,Aj,Ac,A9,hb];rw[Cx (by rw[BM];omega) (by rw[BM];omega),QQ,BM,Ad (by omega:(0:Int)<=(k:Int)),Ad (by omega:(k:Int)<=(b.Leaves.length:Int)-1)];simp only[Aa,GS,Aj,Ac,hx]
 cases h:x.Is==1 with
 |true=>
  have:(x.Is !=1)=false:=by simp[bne,h]
  simp[this]
 |false=>
  have:(x.Is !=1)=true:=by simp[bne,h]
  simp[this]
theorem TM (f:Flash) (hf:Kb f) (hT:∀b∈f.Blocks,∀x∈b.Leaves,(L x.Text).length<=1048576) (hn:nl f.Blocks<=1048576):
  ∃X,Ar (λs:List A4×Int=>ES f s.1 s.2) ([],0)=some X/\Ar (λs:Int×List A4=>Jx f s.1 s.2) (0,[])=some X/\X.length<=nl f.Blocks/\∀y∈X,RB f y:=by
 refine R9 (body:=λs:List A4×Int=>ES f s.1 s.2) (body':=λs:Int×List A4=>Jx f s.1 s.2) (λs i=>(s,i)) (λs i=>(i,s)) f.Blocks.length (λi a=>a.length<=((f.Blocks.take i).map λb=>b.Leaves.length).sum/\∀y∈a,RB f y) (λX=>X.length<=nl f.Blocks/\∀y∈X,RB f y) ?_ ?_ (s:=[]) ⟨by simp,by simp⟩
 ·intro a i hi ⟨c,d⟩;have hb:f.Blocks[i]?=some f.Blocks[i]:=Ab hi;have hm:f.Blocks[i]∈f.Blocks:=AD _;have j:=Rh (λb:Block=>b.Leaves.length) f.Blocks i hi;have l:=Oi (λb:Block=>b.Leaves.length) f.Blocks (i+1);unfold nl at hn;have m:=hf.1;refine .inl ?_;simp only[ES,Jx,A7,Ad hi,Ae,A9,hb,Aa];obtain⟨u,q1,q2,q3⟩:=R9 (body:=λs:List A4×Int=>Fw f (i:Int) s.1 s.2) (body':=λs:Int×List A4=>KT (i:Int) f.Blocks[i] s.1 s.2) (λs i=>(s,i)) (λs i=>(i,s)) f.Blocks[i].Leaves.length (λk u=>u.length<=a.length+k/\∀y∈u,RB f y) (λu=>u.length<=a.length+f.Blocks[i].Leaves.length/\∀y∈u,RB f y)
   (λu k hk hu=>by
    have hx:f.Blocks[i].Leaves[k]?=some f.Blocks[i].Leaves[k]:=Ab hk;have g:f.Blocks[i].Leaves[k]∈f.Blocks[i].Leaves:=AD _;have n:=hf.2 _ hm
    have h:∀y:A4,ap 72 u [y]=some (u++ [y]):=λy=>Cg (by simp only[Ak];omega)
    refine .inl ?_;obtain⟨p,ok,r1,r2,r3,r4⟩:=IU f.Blocks[i].Leaves[k].Text (by have:=hT _ hm _ g;omega);simp only[Fw,KT,A7,Ad hk,Ae,A9,hb,hx,Aa,Xd f hf hb hx,r2,h];have o:=hu.1
    cases e:f.Blocks[i].Leaves[k].Is==1 with
    |false=>
     obtain⟨p',ok',t1,_⟩:=IU (bs []) (by rw[E7];simp);simp only[Ac,Aa,t1];refine⟨u,by rw[ad1 (by omega)],by cases ok<;>(simp only[Ae,Ac,Aa];rw[ad1 (by omega)]),by omega,hu.2⟩
    |true=>
     simp only[Ae,Aa,r1]
     cases ok with
     |false=>exact⟨u,by simp only[Ac];rw[ad1 (by omega)],by simp only[Ac,Aa];rw[ad1 (by omega)],by omega,hu.2⟩
     |true=>
      refine⟨u++ [A4.mk i k p],by simp only[Ae];rw[ad1 (by omega)],by simp only[Ae,Aa];rw[ad1 (by omega)],by simp only[Ag,Ak];omega,λy hy=>?_⟩
      rcases Ai.1 hy with hy|hy
      ·exact hu.2 y hy
      rw[Aw]at hy;subst hy
      exact⟨_,_,by simp only[A9];exact hb,by simp only[A9];exact hx,e,r1⟩)
   (λu hu=>⟨u,by simp only[Fw,A9,hb,Aa,A7,Al,Ap,Ac],by simp only[KT,A7,Al,Ap,Ac],hu⟩) (s:=a) ⟨by omega,d⟩
  rw[q1,q2];simp only[Aa];rw[ad1 (by omega)];exact⟨u,rfl,rfl,by omega,q3.2⟩
 intro a ⟨c,d⟩;refine⟨a,by simp only[ES,A7,Al,Ap,Ac],by simp only[Jx,A7,Al,Ap,Ac],?_,d⟩;rw[AN]at c;exact c
theorem iN {l:List γ} {i j:Int} {x y:γ} (h:gi l j=some y):∃z,gi (si l i x) j=some z:=by
 obtain⟨h1,h2⟩:=Dk h;have:=(Ah.1 h2).1;unfold gi;rw[Ax h1];exact⟨_,Ab (by simp only[si,Fl];exact this)⟩
theorem nY (l:List A4) (k:Int):KE l k=(Bv (MX BP) 0 k l).map (Sum.map (λs=>(s.2,s.1)) id):=by
 unfold KE Bv vH nX
 cases hk:decide (k>0)with
 |false=>rfl
 |true=>
  simp only[Ae]
  cases h1:gi l (sb k 1)with
  |none=>cases h2:gi l k<;>simp
  |some x=>
   cases h2:gi l k with
   |none=>simp
   |some y=>
    simp only[Aa];have e:(decide (x.Page.Seq>y.Page.Seq))=MX BP y x:=rfl;rw[e]
    cases MX BP y x with
    |false=>rfl
    |true=>
     simp only[Ae,h1,h2,Aa];obtain⟨z,hz⟩:=iN (i:=k) (x:=x) h1;rw[hz];rfl
theorem AAy {l l':List γ} {i j:Int} (h:nX l i j=some l'):l'.length=l.length:=by
 unfold nX at h;obtain⟨x,_,h⟩:=Av.1 h;obtain⟨y,_,h⟩:=Av.1 h
 injection h with h
 subst h;simp[si]
theorem ABd {a j:Int} {l r:List A4} (h:Ar (λs:Int×List A4=>Bv (MX BP) a s.1 s.2) (j,l)=some r):r.length=l.length:=by
 refine uE (λs:Int×List A4=>s.2.length=l.length) (λr=>r.length=l.length) ?_ ?_ (s:=(j,l)) rfl h
 ·rintro⟨j,m⟩ s' hm hb;simp only[Bv]at hb;obtain⟨c,_,hb⟩:=Av.1 hb
  cases c with
  |false=>cases hb
  |true=>
   simp only[Ae]at hb;obtain⟨m',h1,hb⟩:=Av.1 hb
   injection hb with hb
   injection hb with hb
   subst hb;exact(AAy h1).trans hm
 rintro⟨j,m⟩ b hm hb;simp only[Bv]at hb;obtain⟨c,_,hb⟩:=Av.1 hb
 cases c with
 |false=>
  simp only[Ac]at hb
  injection hb with hb
  injection hb with hb
  subst hb;exact hm
 |true=>
  simp only[Ae]at hb;obtain⟨m',h1,hb⟩:=Av.1 hb;cases hb
theorem ZP (f:Flash) (hf:Kb f) (hT:∀b∈f.Blocks,∀x∈b.Leaves,(L x.Text).length<=1048576) (hn:nl f.Blocks<=1048576):
  ∃r,Gi f=some r/\Gr f=some r/\r.length<=nl f.Blocks/\(∀y∈r,RB f y)/\srt BP r:=by
 obtain⟨X,h1,h2,h3,h4⟩:=TM f hf hT hn;obtain⟨r,h5,h6,h7⟩:=cS BP X (by omega);obtain⟨r',h8,h9,h10⟩:=Jp BP [] X [] (by simp only[Bp];omega);have hr:r'=r:=N1 BP h9 h6 (λk=>by rw[h7 k,<-h10 k]);subst hr;refine⟨r',?_,?_,?_,?_,h6⟩
 ·unfold Gi;rw[h1,Aa];simp only[AA,A0,Bp,Io]at h8;unfold BW at h8;rw[show ad ((0:Nat):Int) 1=1 from rfl]at h8;have hc:Ar (λs:List A4×Int=>KF s.1 s.2) (X,1)=Ar (λs:Int×List A4=>B4 (MX BP) ((0:Nat):Int) (X.length:Int) s.1 s.2) (1,X):=by
   refine lJ (body:=λs:Int×List A4=>B4 (MX BP) ((0:Nat):Int) (X.length:Int) s.1 s.2) (body':=λs:List A4×Int=>KF s.1 s.2) (λs=>(s.2,s.1)) (λs=>s.2.length=X.length) ?_ ?_ (1,X) rfl
   ·rintro⟨j,m⟩ hm;simp only at hm;simp only[KF,B4,BM,hm]
    cases decide (j<(X.length:Int))with
    |false=>rfl
    |true=>
     simp only[Ae];rw[pB (body:=λs:Int×List A4=>Bv (MX BP) ((0:Nat):Int) s.1 s.2) (body':=λs:List A4×Int=>KE s.1 s.2) (λs=>(s.2,s.1)) (λs=>nY s.2 s.1) (j,m)];cases Ar (λs:Int×List A4=>Bv (MX BP) ((0:Nat):Int) s.1 s.2) (j,m)<;>rfl
   rintro⟨j,m⟩ s' hm hb;simp only[B4]at hb
   cases hc:decide (j<(X.length:Int))with
   |false=>rw[hc,Ac]at hb;cases hb
   |true=>
    rw[hc,Ae]at hb;obtain⟨m',h1,hb⟩:=Av.1 hb
    injection hb with hb
    injection hb with hb
    subst hb;exact(ABd h1).trans hm
  rw[hc];exact h8
 ·unfold Gr;rw[h2,Aa,h5];rfl
 ·rw[<-h7.len];exact h3
 exact λy hy=>h4 y ((h7.mem).1 hy)
theorem NL {S:Type} {body:S->Option (S⊕List α)} (a:List α->Int->S) (g:Nat->α->α) (l0:List α) (h1:∀(i:Nat) (l:List α) x,l.length=l0.length->l[i]?=some x->l0[i]?=some x->body (a l (i:Nat))=some (.inl (a (l.set i (g i x)) ((i+1:Nat):Int)))) (h2:∀l:List α,l.length=l0.length->body (a l (l0.length:Nat))=some (.inr l)):Ar body (a l0 0)=some (l0.mapIdx g):=by
 obtain⟨b,h3,h4⟩:=Bb (body:=body) a l0.length (λi l=>l.length=l0.length/\∀j,l[j]?=if j<i then(l0[j]?).map (g j)else l0[j]?) (λb=>b=l0.mapIdx g)
  (λl i hi hs=>by
   obtain⟨hl,hs⟩:=hs;have c:l0[i]?=some l0[i]:=Ab hi;have hx:l[i]?=some l0[i]:=by rw[hs,Az (Al _),c]
   refine .inl ⟨_,h1 i l _ hl hx c,by rw[Fl,hl],λj=>?_⟩;rw[Cl];by_cases e:i=j
   ·subst e;rw[Ax rfl,Ax (by omega),Ax (by omega),c];rfl
   rw[Az e,hs];by_cases h:j<i
   ·rw[Ax h,Ax (by omega)]
   rw[Az h,Az (by omega)])
  (λl hs=>⟨l,h2 l hs.1,by
   apply CO;intro j;rw[hs.2,Li];by_cases h:j<l0.length
   ·rw[Ax h]
   rw[Az h,DF (by omega)]
   rfl⟩) (s:=l0) ⟨rfl,λj=>by rw[Az (by omega)]⟩
 rw[h3,h4]
abbrev Ks:=List BJ
def dk:BJ:=BJ.mk true []
def BI (K:Ks) (i:Int):BJ:=(gi K i).getD dk
def Lg (k:BJ) (j:Nat):Int:=(k.Kids[j]?).getD 0
def Pq (K:Ks) (i:Nat) (leaf:Bool) (n:Int):Bool:=bif leaf then decide (0<=n)else(n== -1||(decide (0<=n/\n<=(i:Int)-1)&&(BI K n).Leaf))
def Df (K:Ks):Bool:=K.zipIdx.all λz=>z.1.Kids.length==4&&z.1.Kids.all (Pq K z.2 z.1.Leaf)
def DK (K:Ks) (r:Int):Bool:=r== -1||(decide (0<=r/\r<(K.length:Int))&&!(BI K r).Leaf)
def QU (K:Ks) (root:Int) (s:Nat):Int:=if root<0 then 0 else if Lg (BI K root) (s/4)<0 then 0 else Lg (BI K (Lg (BI K root) (s/4))) (s %4)
def Fy (K:Ks) (root:Int):List Int:=(List.range 16).map (QU K root)
variable {K X:Ks}
theorem Pp (h:i<K.length):BI K (i:Int)=K[i]:=by
 unfold BI;rw[A9,Ab h];rfl
theorem Iw {i:Int} (h0:0<=i) (h:i<(K.length:Int)):gi K i=some (BI K i):=by
 unfold BI;rw[Ln h0 h];rfl
theorem EY (x a b:Int):Cf x a b=some (decide (a<=x/\x<=b)):=by
 rw[QQ];congr 1;rw[Ea];simp
theorem HJ:Df K=true↔∀i:Nat,i<K.length->(BI K (i:Int)).Kids.length=4/\∀n∈(BI K (i:Int)).Kids,Pq K i (BI K (i:Int)).Leaf n=true:=by
 unfold Df;rw[Hp];constructor
 ·intro h i hi;have:=h (K[i],i) (by rw[List.mem_zipIdx_iff_getElem?];exact Ab hi);rw[An,Hp]at this;rw[Pp hi];exact⟨by simpa using this.1,this.2⟩
 intro h z hz;rw[List.mem_zipIdx_iff_getElem?]at hz;obtain⟨a,hz⟩:=Ah.1 hz;have:=h z.2 a;rw[Pp a,hz]at this;rw[An,Hp];exact⟨by simpa using this.1,this.2⟩
theorem KI (a:Arena) (ha:a.Knots.length<=1048576):Hf a=some (Df a.Knots):=by
 unfold Hf;have h:=YX (body:=λs:Int=>E4 a s) a.Knots (λi k=>k.Kids.length==4&&k.Kids.all (Pq a.Knots i k.Leaf)) (.inr false) (.inl ()) (by omega)
  (λi k hk=>by
   have hi:=(Ah.1 hk).1;simp only[E4,A7,Ad hi,Ae,A9,hk,Aa];by_cases h4:k.Kids.length=4
   ·have e1:(ln k.Kids !=4)=false:=by simp[ln,h4]
    have e2:(k.Kids.length==4)=true:=by simp[h4]
    simp only[e1,Ac,e2,Cz];have q:=YX (body:=λs:Int=>E0 a (i:Int) k s) k.Kids (λ_ n=>Pq a.Knots i k.Leaf n) (.inr (.inr (.inr false))) (.inl ()) (by omega)
     (λj n hn=>by
      have hj:=(Ah.1 hn).1;simp only[E0];rw[Ad (by omega:(j:Int)<4),Ae,A9,hn];simp only[Aa,Pq]
      cases hl:k.Leaf with
      |true=>
       simp only[Ae,Aj,Ac];by_cases h0:n<0
       ·rw[Ad h0,Af (by omega:¬0<=n)];rfl
       rw[Af h0,Ad (by omega:0<=n)];simp only[Ac,Aa,Ae];rw[ad1 (by omega)]
      |false=>
       simp only[Ac,AC,Ae];by_cases h1:n= -1
       ·subst h1;simp only[bne_self_eq_false,Ac,Aa,BEq.rfl,Bool.true_or,Ae];rw[ad1 (by omega)]
       have e3:(n != -1)=true:=by simp[h1]
       have e4:(n== -1)=false:=by simp[h1]
       rw[e3,e4];simp only[Ae,V3];rw[Cx (by omega) (by omega),EY];simp only[Aa];by_cases h2:0<=n/\n<=(i:Int)-1
       ·rw[Ad h2];simp only[Aj,Ac];rw[Iw h2.1 (by omega)];simp only[Aa,Cz]
        cases(BI a.Knots n).Leaf with
        |true=>simp only[Aj,Ac,Ae];rw[ad1 (by omega)]
        |false=>rfl
       rw[Af h2];rfl)
     (by simp only[E0];rw[Af (by omega:¬((k.Kids.length:Nat):Int)<4),Ac])
    rw[q];have hz:(k.Kids.zipIdx.all λz=>Pq a.Knots i k.Leaf z.1)=k.Kids.all (Pq a.Knots i k.Leaf):=by
     rw[show(λz:Int×Nat=>Pq a.Knots i k.Leaf z.1)=(Pq a.Knots i k.Leaf)∘Prod.fst from rfl,<-List.all_map];congr 1;simp
    simp only[Aa];rw[hz]
    cases k.Kids.all (Pq a.Knots i k.Leaf)with
    |true=>simp only[Ae,Bn];rw[ad1 (by omega)]
    |false=>rfl
   have e1:(ln k.Kids !=4)=true:=by simp[ln];omega
   have e2:(k.Kids.length==4)=false:=by simp[h4]
   simp only[e1,Ae,e2,Bool.false_and,Ac])
  (by simp only[E4,A7,Al,Ap,Ac])
 rw[h];unfold Df;simp only[Aa];cases(a.Knots.zipIdx.all λz=>z.1.Kids.length==4&&z.1.Kids.all (Pq a.Knots z.2 z.1.Leaf))<;>rfl
theorem MR (a:Arena) (ha:a.Knots.length<=1048576) (r:Int):HV a r=some (DK a.Knots r):=by
 unfold HV DK
 cases hr:(r== -1)with
 |true=>rfl
 |false=>
  simp only[Ac,V3];rw[BM,Cx (by omega) (by omega),EY];simp only[Aa];by_cases h:0<=r/\r<(a.Knots.length:Int)
  ·rw[Ad h,Ad (by omega:0<=r/\r<=(a.Knots.length:Int)-1)];simp only[Ae,Cz];rw[Iw h.1 h.2];rfl
  rw[Af h,Af (by omega:¬(0<=r/\r<=(a.Knots.length:Int)-1))];rfl
theorem Cm (h:DK K r=true):r= -1\/(0<=r/\r<(K.length:Int)/\(BI K r).Leaf=false):=by
 unfold DK at h;simp only[Co,Ck,An,A6,CP]at h
 rcases h with h|h
 ·exact .inl h
 exact .inr ⟨h.1.1,h.1.2,h.2⟩
theorem FN (hK:Df K=true) (h0:0<=r) (h1:r<(K.length:Int)):(BI K r).Kids.length=4/\∀j,j<4->(BI K r).Kids[j]?=some (Lg (BI K r) j)/\Pq K r.toNat (BI K r).Leaf (Lg (BI K r) j)=true:=by
 have:=HJ.1 hK r.toNat (by omega);rw[show((r.toNat:Nat):Int)=r by omega]at this;refine⟨this.1,λj hj=>?_⟩;have a:j<(BI K r).Kids.length:=by omega
 have e:(BI K r).Kids[j]?=some (Lg (BI K r) j):=by unfold Lg;rw[Ab a];rfl
 exact⟨e,this.2 _ (A5 e)⟩
theorem G3 (hK:Df K=true) (h0:0<=r) (h1:r<(K.length:Int)) (hl:(BI K r).Leaf=false) (hj:j<4):Lg (BI K r) j= -1\/(0<=Lg (BI K r) j/\Lg (BI K r) j<r/\(BI K (Lg (BI K r) j)).Leaf=true):=by
 have:=((FN hK h0 h1).2 j hj).2;rw[hl]at this;simp only[Pq,Ac,Co,Ck,An,A6]at this
 rcases this with h|⟨⟨h2,h3⟩,h4⟩
 ·exact .inl h
 exact .inr ⟨h2,by omega,h4⟩
theorem yQ (hK:Df K=true) (h0:0<=r) (h1:r<(K.length:Int)) (hl:(BI K r).Leaf=true) (hj:j<4):0<=Lg (BI K r) j:=by
 have:=((FN hK h0 h1).2 j hj).2;rw[hl]at this;simpa[Pq]using this
theorem qu4 (h:s<16):qu (s:Int) 4=((s/4:Nat):Int):=by
 unfold qu;rw[show Int.tdiv (s:Int) 4=((s/4:Nat):Int) by rw[Int.tdiv_eq_ediv_of_nonneg (by omega)];omega];exact OV (by omega) (by omega)
theorem vQ:Int.tmod (s:Int) 4=((s %4:Nat):Int):=by
 rw[Lj (by omega)];omega
theorem W9 (a:Arena) (hK:Df a.Knots=true) (hr:DK a.Knots r=true) (hs:s<16):N8 a r (s:Int)=some (QU a.Knots r s):=by
 unfold N8 QU
 rcases Cm hr with rfl|⟨h0,h1,hl⟩
 ·rfl
 rw[Af (by omega:¬r<0),Az (by omega),Ac,Iw h0 h1];simp only[Aa];rw[qu4 hs,A9,((FN hK h0 h1).2 (s/4) (by omega)).1];simp only[Aa]
 rcases G3 hK h0 h1 hl (show s/4<4 by omega)with e|⟨e1,e2,e3⟩
 ·rw[e];rfl
 rw[Af (by omega),Az (by omega),Ac,Iw e1 (by omega)];simp only[Aa];rw[vQ,A9,((FN hK e1 (by omega)).2 (s %4) (by omega)).1];rfl
theorem Y5 (a:Arena) (ha:a.Knots.length<=1048576) (hK:Df a.Knots=true) (hr:DK a.Knots r=true) (hs:s<16):PO a r (s:Int)=some (QU a.Knots r s):=by
 unfold PO;rw[KI a ha,MR a ha,EY,hK,hr];simp only[Aa,Aj,Ac];rw[Ad (by omega:0<=(s:Int)/\(s:Int)<=15)];simp only[Aj,Ac];rw[W9 a hK hr hs]
 try rfl
theorem PR (a:Arena) (ha:a.Knots.length<=1048576) (hK:Df a.Knots=true) (hr:DK a.Knots r=true):JU a r=some (Fy a.Knots r):=by
 unfold JU;obtain⟨b,h1,h2⟩:=Bb (body:=λs:List Int×Int=>HD a r s.1 s.2) (λ(o:List Int) i=>(o,i)) 16 (λi o=>o=(List.range i).map (QU a.Knots r)) (λb=>b=Fy a.Knots r)
  (λo i hi ho=>by
   refine .inl ⟨_,?_,rfl⟩;simp only[HD];rw[Ad (by omega:(i:Int)<16),Ae,Y5 a ha hK hr hi];simp only[Aa];rw[Cg (by rw[ho];simp;omega)];simp only[Aa]
   rw[ad1 (by omega),ho,EC,Cy,List.map_singleton])
  (λo ho=>⟨_,by simp only[HD];rw[Af (by omega:¬((16:Nat):Int)<16),Ac],ho⟩) (s:=[]) rfl
 have h1':Ar (λs:List Int×Int=>HD a r s.1 s.2) ([],0)=some b:=h1;rw[h1',h2];rfl
theorem LO {by_:Nat} (h:l.length*by_<=140737488355328):ap by_ [] l=some l:=by
 rw[Cg (by simpa using h),AA]
def zN (K:Ks):Prop:=K.length<=1048576/\∀k∈K,k.Kids.length<=1048576
theorem KX (hK:Df K=true) (h:K.length<=1048576):zN K:=by
 refine⟨h,λk hk=>?_⟩;obtain⟨i,hi,rfl⟩:=AG hk;have:=(HJ.1 hK i hi).1;rw[Pp hi]at this;omega
theorem Uz (a:Arena) (h:zN a.Knots):Nk a=some a:=by
 unfold Nk;have h1:=UY (body:=λs:Int×List BJ=>K8 a s.1 s.2) a.Knots (λk=>k)
  (λi k b hk ho=>by
   have hi:=(Ah.1 hk).1;have hm:=h.2 k (A5 hk);have:=h.1;simp only[K8,A7,Ad hi,Ae,A9,hk,Aa];rw[LO (by omega)];simp only[Aa];rw[Cg (by simp;omega)];simp only[Aa]
   rw[ad1 (by omega)])
  (λb=>by simp only[K8,A7,Al,Ap,Ac])
 rw[h1];simp only[Aa,List.map_id']
theorem Gy (s:Store) (h:zN s.Arena.Knots) (hv:s.Vols.length<=1048576):E8 s=some s:=by
 unfold E8;rw[LO (by omega),Uz _ h];rfl
def O1 (K:Ks) (r:Int) (s:Nat) (n:Int):List Int:=(if r<0 then [0,0,0,0]else if Lg (BI K r) (s/4)<0 then [0,0,0,0]else(BI K (Lg (BI K r) (s/4))).Kids).set (s %4) n
def SN (K:Ks) (r:Int) (s:Nat):List Int:=(if r<0 then [-1,-1,-1,-1]else(BI K r).Kids).set (s/4) (K.length:Int)
def JH (K:Ks) (r:Int) (s:Nat) (n:Int):Ks:=K++ [BJ.mk true (O1 K r s n),BJ.mk false (SN K r s)]
theorem mk4:mk 8 (0:Int) 4=some [0,0,0,0]:=by rw[show(4:Int)=((4:Nat):Int)from rfl,VU (by omega) (by omega)];rfl
theorem mG {k:BJ} (h:j<k.Kids.length):gi k.Kids (j:Int)=some (Lg k j):=by
 unfold Lg;rw[A9,Ab h];rfl
theorem Y1 (a:Arena) (ha:a.Knots.length<=1048000) (hK:Df a.Knots=true) (hr:DK a.Knots r=true) (hs:s<16) (hn:0<=n):
  XC a r (s:Int) n=some (Arena.mk (JH a.Knots r s n),(a.Knots.length:Int)+1):=by
 unfold XC;rw[Uz _ (KX hK (by omega)),KI a (by omega),MR a (by omega),EY,hK,hr];simp only[Aa,Aj,Ac];rw[Ad (by omega:0<=(s:Int)/\(s:Int)<=15),Af (by omega:¬n<0)];simp only[Aj,Ac,Aa];rw[mk4];simp only[Aa];have fin:∀(lf tp:List Int),lf.length=4->tp.length=4->JH a.Knots r s n=a.Knots++ [BJ.mk true (lf.set (s %4) n),BJ.mk false (tp.set (s/4) (a.Knots.length:Int))]->
   ((gi lf (Int.tmod (s:Int) 4)).bind λx4=>(gi tp (qu (s:Int) 4)).bind λx5=>(ap 32 a.Knots [BJ.mk true (si lf (Int.tmod (s:Int) 4) n),BJ.mk false (si tp (qu (s:Int) 4) (ln a.Knots))]).bind λq4=>some (Arena.mk q4,sb (ln q4) 1))=some (Arena.mk (JH a.Knots r s n),(a.Knots.length:Int)+1):=by
  intro lf tp h1 h2 h3;rw[qu4 hs,vQ,A9,A9,Ab (by omega),Ab (by omega)];simp only[Aa];rw[Cg (by simp;omega),Fg,Fg,BM,<-h3];simp only[Aa];rw[BM,h3,Ag,Cx (by simp;omega) (by simp;omega)];simp only[Ay,Bp];congr 2;omega
 rcases Cm hr with rfl|⟨h0,h1,hl⟩
 ·rw[Af (by omega:¬(-1:Int)>=0)];simp only[Ac,Aa];exact fin _ _ rfl rfl rfl
 rw[Ad (by omega:r>=0),Ae,Iw h0 h1];have h4:=(FN hK h0 h1).1;simp only[Aa];rw[LO (by omega)];simp only[Aa];rw[qu4 hs,mG (by omega:s/4<(BI a.Knots r).Kids.length)];simp only[Aa];rw[<-qu4 hs]
 rcases G3 hK h0 h1 hl (show s/4<4 by omega)with e|⟨e1,e2,e3⟩
 ·rw[Af (by omega:¬Lg (BI a.Knots r) (s/4)>=0)];simp only[Ac,Aa];exact fin _ _ rfl h4 (by unfold JH O1 SN;simp only[Az (show¬r<0 by omega),Ax (show Lg (BI a.Knots r) (s/4)<0 by omega)])
 rw[Ad (by omega:Lg (BI a.Knots r) (s/4)>=0),Ae,Iw e1 (by omega)];have h5:=(FN hK e1 (by omega)).1;simp only[Aa];rw[LO (by omega)];simp only[Aa];exact fin _ _ h5 h4 (by unfold JH O1 SN;simp only[Az (show¬r<0 by omega),Az (show¬Lg (BI a.Knots r) (s/4)<0 by omega)])
def NS (K:Ks) (r:Int) (i:Nat):Bool:=decide (0<=r)&&(decide (r=(i:Int))||(BI K r).Kids.any λn=>decide (n=(i:Int)))
theorem gV (n:Nat) (f:Nat->α) (g:Nat->α->α):((List.range n).map f).mapIdx g=(List.range n).map λi=>g i (f i):=by
 apply CO;intro j;rw[Li,AT,AT];by_cases h:j<n
 ·rw[Rd h];rfl
 rw[DF (by simpa using h)];rfl
theorem Ph (n:Nat) (f:Nat->α) (i:Nat) (x:α) (g:Nat->α) (h:∀j,j<n->g j=if j=i then x else f j):((List.range n).map f).set i x=(List.range n).map g:=by
 apply CO;intro j;rw[Cl,AT,AT];by_cases hj:j<n
 ·rw[Rd hj];simp only[B9,h j hj,AZ,Ce];by_cases e:i=j
  ·rw[Ax e,Ax (by omega),Ax e.symm]
  rw[Az e,Az (Ft e)]
 rw[DF (by simpa using hj)];simp only[Option.map_none,AZ,Ce];split
 ·rw[Az (by omega)]
 rfl
theorem HZ {n:Nat} {f:Nat->α} (h:i<n):((List.range n).map f)[i]?=some (f i):=by
 rw[AT,Rd h];rfl
theorem Uk {l:List Int} {m:Nat} (h:l[m]?=some x) (p:Int->Bool):(l.take (m+1)).any p=((l.take m).any p||p x):=by
 rw[Em,h,List.any_append];simp
theorem kC (a:Arena) (ha:a.Knots.length<=1048576) (hK:Df a.Knots=true) (hr:DK a.Knots r=true):Uy a r=some ((List.range a.Knots.length).map (NS a.Knots r)):=by
 unfold Uy;rw[BM,VU (by omega) (by omega)];simp only[Aa]
 rcases Cm hr with rfl|⟨h0,h1,hl⟩
 ·simp only[show decide ((-1:Int)<0)=true from rfl,Ae];congr 1;rw[show(NS a.Knots (-1))=λ_=>false from rfl,Kc,Ce]
 rw[Af (by omega:¬r<0),Ac];obtain⟨m,rfl⟩:∃m:Nat,r=(m:Int):=⟨r.toNat,by omega⟩;rw[A9,List.getElem?_replicate,Ax (by omega)];simp only[Aa];rw[Fg];obtain⟨h4,hk⟩:=FN hK h0 h1;obtain⟨b,q1,q2⟩:=Bb (body:=λs:List Bool×Int=>Kh a (m:Int) s.1 s.2) (λ(o:List Bool) i=>(o,i)) 4
  (λi o=>o=(List.range a.Knots.length).map λ(j:Nat)=>decide ((m:Int)=(j:Int))||((BI a.Knots (m:Int)).Kids.take i).any λn=>decide (n=(j:Int)))
  (λb=>b=(List.range a.Knots.length).map (NS a.Knots (m:Int)))
  (λo i hi ho=>by
   obtain⟨e,_⟩:=hk i hi;simp only[Kh];rw[Ad (by omega:(i:Int)<4),Ae,Iw h0 h1];simp only[Aa];rw[A9,e];simp only[Aa]
   rcases G3 hK h0 h1 hl hi with e1|⟨e1,e2,e3⟩
   ·rw[e1,Af (by omega:¬(-1:Int)>=0),Ac,ad1 (by omega)];refine .inl ⟨o,rfl,?_⟩;rw[ho];apply CY;intro j hj;rw[Uk e,e1,Af (by omega:¬(-1:Int)=(j:Int)),PA]
   obtain⟨c,hc⟩:∃c:Nat,Lg (BI a.Knots (m:Int)) i=(c:Int):=⟨(Lg (BI a.Knots (m:Int)) i).toNat,by omega⟩;rw[hc,Ad (by omega:(c:Int)>=0),Ae]
   try simp only[Aa]
   rw[ho,A9,HZ (by omega)];simp only[Aa];rw[Fg,ad1 (by omega)];refine .inl ⟨_,rfl,?_⟩;apply Ph;intro j hj;rw[Uk e,hc];by_cases d:j=c
   ·subst d;simp
   rw[Az d,Af (by omega:¬(c:Int)=(j:Int)),PA])
  (λo ho=>⟨_,by simp only[Kh];rw[Af (by omega:¬((4:Nat):Int)<4),Ac],by
   rw[ho];apply CY;intro j hj;rw[AS (by omega)];unfold NS
   rw[Ad h0,Cz]⟩) (s:=(List.replicate a.Knots.length false).set m true) (by
   rw[<-Ce (n:=a.Knots.length),<-Kc,Ce];apply Ph;intro j hj;simp only[J4,List.any_nil,PA];by_cases e:j=m
   ·subst e;simp
   rw[Az e,Af (by omega)])
 have q1':Ar (λs:List Bool×Int=>Kh a (m:Int) s.1 s.2) ((List.replicate a.Knots.length false).set m true,0)=some b:=q1;rw[q1',q2];rfl
def CF (K:Ks) (R:List Int) (i:Nat):Bool:=R.any λr=>NS K r i
def bA (K:Ks) (R:List Int) (i:Nat):Nat:=((List.range i).filter (CF K R)).length
def No (K:Ks) (R:List Int) (n:Int):Int:=if 0<=n then(bA K R n.toNat:Int)else n
def X7 (K:Ks) (R:List Int) (i:Nat):BJ:=BJ.mk (BI K (i:Int)).Leaf (bif(BI K (i:Int)).Leaf then(BI K (i:Int)).Kids else(BI K (i:Int)).Kids.map (No K R))
def SO (K:Ks) (R:List Int):Ks:=((List.range K.length).filter (CF K R)).map (X7 K R)
theorem Jm (l:List α) (f:α->α):l.mapIdx (λ_ x=>f x)=l.map f:=by
 apply CO;intro j;rw[Li,AT]
theorem OX (hr:r∈R) (h0:0<=r):CF K R r.toNat=true:=by
 unfold CF;rw[C8];exact⟨r,hr,by unfold NS;rw[Ad h0,Ad (by omega:r=(r.toNat:Int))];rfl⟩
theorem Yc (hK:Df K=true) (hR:∀r∈R,DK K r=true) (hu:CF K R i=true) (hl:(BI K (i:Int)).Leaf=false):(i:Int)∈R:=by
 unfold CF at hu;rw[C8]at hu;obtain⟨r,hr,h⟩:=hu;unfold NS at h;simp only[An,Co,A6,C8]at h;obtain⟨h0,h⟩:=h
 rcases h with h|⟨n,hn,h⟩
 ·rw[<-h];exact hr
 rcases Cm (hR r hr)with e|⟨_,h1,a⟩
 ·omega
 obtain⟨h4,hk⟩:=FN hK h0 h1;obtain⟨j,hj,b⟩:=AG hn;have e:=(hk j (by omega)).1;rw[Ab hj,b]at e
 injection e with e
 rcases G3 hK h0 h1 a (show j<4 by omega)with k1|⟨_,_,k3⟩
 ·omega
 rw[<-e,h,hl]at k3;cases k3
theorem Ud (hr:r∈R) (h0:0<=r) (hn:n∈(BI K r).Kids) (h1:0<=n):CF K R n.toNat=true:=by
 unfold CF;rw[C8];refine⟨r,hr,?_⟩;unfold NS;rw[Ad h0,Cz,Co,C8];exact .inr ⟨n,hn,by rw[A6];omega⟩
theorem ABM (i:Nat):bA K R i<=i:=by
 have:=BO (CF K R) (List.range i);rw[Ce]at this;exact this
theorem aQ (a:Arena) (ha:a.Knots.length<=1048576) (R:List Int) (hc:R.length<=1048576) (hR:∀r∈R,DK a.Knots r=true):Ar (λs:Bool×Int=>Gh a R s.1 s.2) (true,0)=some true:=by
 obtain⟨b,h1,h2⟩:=Bb (body:=λs:Bool×Int=>Gh a R s.1 s.2) (λ(o:Bool) i=>(o,i)) R.length (λ_ o=>o=true) (λb=>b=true)
  (λo i hi ho=>by
   have hx:=Ab hi;simp only[Gh,A7,Ad hi,Ae,Aa,ho,A9,hx];rw[MR a ha,hR _ (AD hi)];simp only[Aa];rw[ad1 (by omega)]
   exact .inl ⟨true,rfl,rfl⟩)
  (λo ho=>⟨o,by simp only[Gh,A7,Al,Ap,Ac,Aa],ho⟩) (s:=true) rfl
 rw[h2]at h1;exact h1
theorem fY (a:Arena) (ha:a.Knots.length<=1048576) (hK:Df a.Knots=true) (R:List Int) (hc:R.length<=1048576) (hR:∀r∈R,DK a.Knots r=true):
  Ar (λs:List Bool×Int=>Gg a R s.1 s.2) (List.replicate a.Knots.length false,0)=some ((List.range a.Knots.length).map (CF a.Knots R)):=by
 obtain⟨b,h1,h2⟩:=Bb (body:=λs:List Bool×Int=>Gg a R s.1 s.2) (λ(o:List Bool) i=>(o,i)) R.length (λi o=>o=(List.range a.Knots.length).map λ(j:Nat)=>(R.take i).any λr=>NS a.Knots r j) (λb=>b=(List.range a.Knots.length).map (CF a.Knots R))
  (λo i hi ho=>by
   have hx:=Ab hi;simp only[Gg,A7,Ad hi,Ae,Aa,A9,hx];rw[kC a ha hK (hR _ (AD hi))];simp only[Aa];have d:o.length=a.Knots.length:=by rw[ho];simp
   have q:=NL (body:=λs:List Bool×Int=>HM ((List.range a.Knots.length).map (NS a.Knots R[i])) s.1 s.2) (λl i=>(l,i)) (λk x=>x||NS a.Knots R[i] k) o
    (λk l x hl c e=>by
     have hk:k<a.Knots.length:=by have:=(Ah.1 c).1;omega
     simp only[HM,A7];rw[Ad (by simpa using hk),Ae,A9,c];simp only[Aa]
     cases x with
     |true=>simp only[Ae,Bool.true_or];rw[Fg,ad1 (by omega)]
     |false=>
      simp only[Ac,V3];rw[A9,HZ hk];simp only[Aa]
      rw[Fg,ad1 (by omega)])
    (λl hl=>by simp only[HM,A7];rw[d,Af (by simp),Ac])
   rw[q];simp only[Aa];rw[ad1 (by omega),ho,gV];refine .inl ⟨_,rfl,?_⟩;apply CY;intro j hj;rw[Em,hx,List.any_append]
   simp)
  (λo ho=>⟨o,by simp only[Gg,A7,Al,Ap,Ac],by rw[ho,AS (by omega)];rfl⟩) (s:=List.replicate a.Knots.length false) (by
   simp only[J4,List.any_nil]
   rw[Kc,Ce])
 rw[<-h2];exact h1
def Sr (K:Ks) (R:List Int) (i:Nat):List Int:=(List.range K.length).map λ(j:Nat)=>if j<i/\CF K R j=true then(bA K R j:Int)else 0
theorem aR (a:Arena) (ha:a.Knots.length<=1048576) (hK:Df a.Knots=true) (R:List Int) (hR:∀r∈R,DK a.Knots r=true):
  Ar (λs:List Int×Int×List BJ=>Gf a ((List.range a.Knots.length).map (CF a.Knots R)) s.1 s.2.1 s.2.2) (List.replicate a.Knots.length 0,0,[])=some (Sr a.Knots R a.Knots.length,SO a.Knots R):=by
 obtain⟨b,h1,h2⟩:=Bb (body:=λs:List Int×Int×List BJ=>Gf a ((List.range a.Knots.length).map (CF a.Knots R)) s.1 s.2.1 s.2.2) (λ(o:List Int×List BJ) i=>(o.1,i,o.2)) a.Knots.length
  (λi o=>o=(Sr a.Knots R i,((List.range i).filter (CF a.Knots R)).map (X7 a.Knots R))) (λb=>b=(Sr a.Knots R a.Knots.length,SO a.Knots R))
  (λo i hi ho=>by
   subst ho;simp only[Gf,A7,Ad hi,Ae];rw[A9,HZ hi];simp only[Aa]
   cases hu:CF a.Knots R i with
   |false=>
    simp only[AC,Ae];rw[ad1 (by omega)];refine .inl ⟨(Sr a.Knots R i,((List.range i).filter (CF a.Knots R)).map (X7 a.Knots R)),rfl,?_⟩;congr 1
    ·unfold Sr;apply CY;intro j hj;by_cases e:j=i
     ·subst e;rw[Az (by omega),Az (by rw[hu];simp)]
     by_cases h:j<i/\CF a.Knots R j=true
     ·rw[Ax h,Ax ⟨by omega,h.2⟩]
     rw[Az h,Az (λh3=>h ⟨by omega,h3.2⟩)]
    rw[EC,AO,BA (by rw[hu];simp)];simp
   |true=>
    simp only[Aj,Ac];have h0:(0:Int)<=(i:Int):=by omega
    have d:(i:Int)<(a.Knots.length:Int):=by omega
    rw[Iw h0 d];obtain⟨h4,hk⟩:=FN hK h0 d;simp only[Aa];rw[LO (by omega)];simp only[Aa];have inner:Ar (λs:Int×List Int=>Ge (Sr a.Knots R i) ((BI a.Knots (i:Int)).Leaf,(BI a.Knots (i:Int)).Kids) s.1 s.2) (0,(BI a.Knots (i:Int)).Kids)=some (X7 a.Knots R i).Kids:=by
     unfold X7
     cases hl:(BI a.Knots (i:Int)).Leaf with
     |true=>rw[A8];rfl
     |false=>
      have q:=NL (body:=λs:Int×List Int=>Ge (Sr a.Knots R i) (false,(BI a.Knots (i:Int)).Kids) s.1 s.2) (λl k=>(k,l)) (λ_ x=>No a.Knots R x) (BI a.Knots (i:Int)).Kids
       (λk l x t f g=>by
        have m:k<4:=by have:=(Ah.1 g).1;omega
        have ex:x=Lg (BI a.Knots (i:Int)) k:=by have:=(hk k m).1;rw[g]at this;injection this
        simp only[Ge];rw[Ad (by omega:(k:Int)<4)];simp only[Ae,Aa,AC];rw[A9,f];simp only[Aa]
        rcases G3 hK h0 d hl m with e|⟨e1,e2,e3⟩
        ·rw[Af (by omega:¬x>=0),Ac,ad1 (by omega)];have:No a.Knots R x=x:=by unfold No;rw[Az (by omega)]
         rw[this,show l.set k x=l from by
          apply CO;intro j;rw[Cl];split
          ·rename_i e5;subst e5;rw[Ax (Ah.1 f).1,f]
          rfl]
        rw[Ad (by omega:x>=0),Ae];obtain⟨c,hc⟩:∃c:Nat,x=(c:Int):=⟨x.toNat,by omega⟩;have u:x∈(BI a.Knots (i:Int)).Kids:=A5 g;have n:=Ud (Yc hK hR hu hl) h0 u (by omega);rw[hc]at n;rw[hc,A9];unfold Sr;rw[HZ (by omega)];simp only[Aa];rw[Ax ⟨by omega,n⟩,Fg,ad1 (by omega)];unfold No;rw[Ax (by omega)]
        rfl)
       (λl t=>by
        simp only[Ge];rw[h4,Af (by omega:¬((4:Nat):Int)<4)]
        rfl)
      rw[Jm]at q;exact q
    rw[inner];simp only[Aa];have v:gi (Sr a.Knots R i) (i:Int)=some 0:=by
     unfold Sr;rw[A9,HZ hi,Az (by omega)]
    rw[v];simp only[Aa];have w:=ABM (K:=a.Knots) (R:=R) i;have p:(((List.range i).filter (CF a.Knots R)).map (X7 a.Knots R)).length=bA a.Knots R i:=by rw[AZ];rfl
    rw[Cg (by rw[p];simp;omega)];simp only[Aa];rw[ad1 (by omega),BM,p,Fg];refine .inl ⟨(_,_),rfl,?_⟩;congr 1
    ·unfold Sr;apply Ph;intro j hj;by_cases e:j=i
     ·subst e;rw[Ax ⟨by omega,hu⟩,Ax rfl]
     rw[Az e];by_cases h:j<i/\CF a.Knots R j=true
     ·rw[Ax h,Ax ⟨by omega,h.2⟩]
     rw[Az h,Az (λh3=>h ⟨by omega,h3.2⟩)]
    rw[EC,AO,BD hu,DZ,Cy]
    rfl)
  (λo ho=>⟨o,by simp only[Gf,A7,Al,Ap,Ac],ho⟩) (s:=(List.replicate a.Knots.length 0,[])) (by
   unfold Sr;simp only[Nat.not_lt_zero,false_and,EM];rw[Kc,Ce]
   rfl)
 rw[<-h2];exact h1
theorem oM (a:Arena) (ha:a.Knots.length<=1048576) (R:List Int) (hc:R.length<=1048576) (hR:∀r∈R,DK a.Knots r=true):
  Ar (λs:List Int×Int=>Gd (Sr a.Knots R a.Knots.length,SO a.Knots R) s.1 s.2) (R,0)=some (R.map (No a.Knots R)):=by
 have q:=NL (body:=λs:List Int×Int=>Gd (Sr a.Knots R a.Knots.length,SO a.Knots R) s.1 s.2) (λl k=>(l,k)) (λ_ x=>No a.Knots R x) R
  (λk l x f b d=>by
   have hk:=(Ah.1 d).1;have g:=(Ah.1 b).1;simp only[Gd,A7,Ad g,Ae,A9,b,Aa]
   rcases Cm (hR x (A5 d))with e|⟨e1,e2,e3⟩
   ·rw[Af (by omega:¬x>=0),Ac,ad1 (by omega)];have:No a.Knots R x=x:=by unfold No;rw[Az (by omega)]
    rw[this,show l.set k x=l from by
     apply CO;intro j;rw[Cl];split
     ·rename_i e5;subst e5
      first
       |rw[Ax g,b]
       |exact b.symm
     rfl]
   rw[Ad (by omega:x>=0),Ae];obtain⟨c,h⟩:∃c:Nat,x=(c:Int):=⟨x.toNat,by omega⟩;have i:=OX (K:=a.Knots) (A5 d) e1;rw[h]at i;rw[h,A9];unfold Sr;rw[HZ (by omega)];simp only[Aa];rw[Ax ⟨by omega,i⟩,Fg,ad1 (by omega)];unfold No;rw[Ax (by omega)]
   rfl)
  (λl f=>by simp only[Gd,BM,f];rw[Af (by omega),Ac])
 rw[Jm]at q;exact q
theorem Yz (a:Arena) (ha:a.Knots.length<=1048576) (hK:Df a.Knots=true) (R:List Int) (hc:R.length<=1048576) (hR:∀r∈R,DK a.Knots r=true):
  KA a R=some (Arena.mk (SO a.Knots R),R.map (No a.Knots R)):=by
 unfold KA;rw[LO (by omega),KI a ha,hK];simp only[Aa];rw[aQ a ha R hc hR];simp only[Aa,Aj,Ac];rw[BM,VU (by omega) (by omega)];simp only[Aa];rw[fY a ha hK R hc hR];simp only[Aa];rw[VU (by omega) (by omega)];simp only[Aa];rw[aR a ha hK R hR];simp only[Aa];rw[oM a ha R hc hR];rfl
theorem Z4 (p:Nat->Bool) (hp:p i=true):∀{n:Nat},i<n->((List.range n).filter p)[((List.range i).filter p).length]?=some i
 |0,h=>by omega
 |n+1,h=>by
  rw[EC,AO];by_cases e:i=n
  ·subst e;rw[AY (A3 _),Sc,BD hp];rfl
  have h2:=Z4 p hp (show i<n by omega);have h3:=(Ah.1 h2).1;rw[AR h3,h2]
theorem mK {n:Nat} (p:Nat->Bool) (hp:p i=true) (h:i<n):((List.range i).filter p).length<((List.range n).filter p).length:=(Ah.1 (Z4 p hp h)).1
theorem mJ (p:Nat->Bool):∀{n j:Nat},j<((List.range n).filter p).length->∃i,i<n/\p i=true/\((List.range i).filter p).length=j
 |0,j,h=>by simp at h
 |n+1,j,h=>by
  rw[EC,AO,Ag]at h;by_cases e:j<((List.range n).filter p).length
  ·obtain⟨i,h1,h2,h3⟩:=mJ p e;exact⟨i,by omega,h2,h3⟩
  by_cases hp:p n=true
  ·rw[BD hp]at h;simp at h;exact⟨n,by omega,hp,by omega⟩
  rw[BA hp]at h;simp at h;omega
theorem fJ:(SO K R).length=bA K R K.length:=by unfold SO bA;rw[AZ]
theorem Se (hu:CF K R i=true) (hi:i<K.length):BI (SO K R) (bA K R i:Nat)=X7 K R i/\bA K R i<(SO K R).length:=by
 have h:=mK (CF K R) hu hi;have h2:bA K R i<(SO K R).length:=by rw[fJ];exact h
 refine⟨?_,h2⟩;unfold BI;rw[A9];unfold SO;rw[AT];have:=Z4 (CF K R) hu hi;rw[show bA K R i=((List.range i).filter (CF K R)).length from rfl,this];rfl
theorem vT (hj:j<(SO K R).length):∃i,i<K.length/\CF K R i=true/\bA K R i=j:=by
 rw[fJ]at hj;exact mJ (CF K R) hj
theorem AC5 (hu:CF K R i=true) (h:i<j):bA K R i<bA K R j:=mK _ hu h
theorem Yl (i:Nat):(X7 K R i).Leaf=(BI K (i:Int)).Leaf:=rfl
theorem rB (hK:Df K=true) (hi:i<K.length):(X7 K R i).Kids.length=4:=by
 have:=(HJ.1 hK i hi).1;unfold X7
 cases(BI K (i:Int)).Leaf with
 |true=>exact this
 |false=>simp only[Ac,AZ];exact this
theorem rC (hl:(BI K (i:Int)).Leaf=false) (hj:j<(BI K (i:Int)).Kids.length):Lg (X7 K R i) j=No K R (Lg (BI K (i:Int)) j):=by
 unfold Lg X7;rw[hl];simp only[Ac];rw[AT,Ab hj];rfl
theorem SZ (hl:(BI K (i:Int)).Leaf=true):(X7 K R i).Kids=(BI K (i:Int)).Kids:=by
 unfold X7;rw[hl];rfl
theorem Sp (h:n<0):No K R n=n:=by unfold No;rw[Az (by omega)]
theorem Sq (n:Nat):No K R (n:Int)=(bA K R n:Int):=by unfold No;rw[Ax (by omega)];rfl
theorem AB7 (hK:Df K=true) (hR:∀r∈R,DK K r=true):Df (SO K R)=true:=by
 rw[HJ];intro j hj;obtain⟨i,hi,hu,rfl⟩:=vT hj;rw[(Se hu hi).1];refine⟨rB hK hi,λn hn=>?_⟩;have h0:(0:Int)<=(i:Int):=by omega
 have h1:(i:Int)<(K.length:Int):=by omega
 obtain⟨h4,hk⟩:=FN hK h0 h1;rw[Yl]
 cases hl:(BI K (i:Int)).Leaf with
 |true=>
  rw[SZ hl]at hn;have:=(HJ.1 hK i hi).2 n hn;rw[hl]at this;simpa[Pq]using this
 |false=>
  obtain⟨m,hm,b⟩:=AG hn;rw[rB hK hi]at hm;have e:n=No K R (Lg (BI K (i:Int)) m):=by
   rw[<-rC hl (by omega),<-b];unfold Lg;rw[Ab];rfl
  rcases G3 hK h0 h1 hl hm with k1|⟨k1,k2,k3⟩
  ·rw[k1,Sp (by omega)]at e;subst e;rfl
  obtain⟨c,hc⟩:∃c:Nat,Lg (BI K (i:Int)) m=(c:Int):=⟨_,(By k1).symm⟩;rw[hc]at e k2 k3;rw[Sq]at e;have a:=Ud (Yc hK hR hu hl) h0 (A5 (hk m hm).1) (by omega);rw[hc]at a;have d:c<K.length:=by omega
  have f:bA K R c<bA K R i:=AC5 (by simpa using a) (by omega);subst e;simp only[Pq,Ac,Co,Ck,An,A6];refine .inr ⟨by omega,?_⟩;rw[(Se (by simpa using a) d).1,Yl];exact k3
theorem wR (hR:∀r∈R,DK K r=true) (hr:r∈R):DK (SO K R) (No K R r)=true:=by
 rcases Cm (hR r hr)with e|⟨h0,h1,hl⟩
 ·rw[e,Sp (by omega)];rfl
 obtain⟨c,rfl⟩:∃c:Nat,r=(c:Int):=⟨_,(By h0).symm⟩;have a:=OX (K:=K) hr h0;rw[Bh]at a;obtain⟨g1,g2⟩:=Se a (by omega);rw[Sq];unfold DK;rw[Ad (by omega),g1,Yl,hl];simp
theorem rO (hK:Df K=true) (hR:∀r∈R,DK K r=true) (hr:r∈R):Fy (SO K R) (No K R r)=Fy K r:=by
 unfold Fy;apply CY;intro s hs;rw[Hu]at hs;unfold QU
 rcases Cm (hR r hr)with e|⟨h0,h1,hl⟩
 ·rw[e,Sp (by omega),Ax (by omega),Ax (by omega)]
 obtain⟨c,rfl⟩:∃c:Nat,r=(c:Int):=⟨_,(By h0).symm⟩;have a:=OX (K:=K) hr h0;rw[Bh]at a;obtain⟨g1,g2⟩:=Se a (by omega);obtain⟨h4,hk⟩:=FN hK h0 h1;rw[Sq,g1,rC hl (by omega)];simp only[Az (show¬((bA K R c:Nat):Int)<0 by omega),Az (show¬((c:Nat):Int)<0 by omega)]
 rcases G3 hK h0 h1 hl (show s/4<4 by omega)with k1|⟨k1,k2,k3⟩
 ·rw[k1,Sp (by omega)];rfl
 obtain⟨d,hd⟩:∃d:Nat,Lg (BI K (c:Int)) (s/4)=(d:Int):=⟨_,(By k1).symm⟩;have b:=Ud hr h0 (A5 (hk (s/4) (by omega)).1) k1;rw[hd]at b k2 k3;rw[hd,Sq];simp only[Az (show¬((bA K R d:Nat):Int)<0 by omega),Az (show¬((d:Nat):Int)<0 by omega)];rw[(Se (by simpa using b) (by omega)).1];unfold Lg;rw[SZ k3]
theorem AAz (hK:Df K=true) (hR:∀r∈R,DK K r=true) (hj:j<(SO K R).length):CF (SO K R) (R.map (No K R)) j=true:=by
 obtain⟨i,hi,hu,rfl⟩:=vT hj;have hu':=hu;unfold CF at hu';rw[C8]at hu';obtain⟨r,hr,h⟩:=hu';unfold NS at h;simp only[An,Co,A6,C8]at h;obtain⟨h0,h⟩:=h;unfold CF;rw[C8];refine⟨No K R r,AL.2 ⟨r,hr,rfl⟩,?_⟩;obtain⟨c,rfl⟩:∃c:Nat,r=(c:Int):=⟨_,(By h0).symm⟩;rw[Sq];unfold NS;simp only[An,Co,A6,C8];refine⟨by omega,?_⟩
 rcases h with h|⟨n,hn,h⟩
 ·have:c=i:=by omega
  subst this;exact .inl rfl
 right
 rcases Cm (hR _ hr)with e|⟨_,h1,hl⟩
 ·omega
 have a:=OX (K:=K) hr h0;rw[Bh]at a;rw[(Se a (by omega)).1];refine⟨(bA K R i:Int),?_,rfl⟩;unfold X7;rw[hl];simp only[Ac,AL];exact⟨n,hn,by rw[h,Sq]⟩
theorem NM {i:Int} (h0:0<=i) (h:i<(K.length:Int)):BI (K++X) i=BI K i:=by
 obtain⟨c,rfl⟩:∃c:Nat,i=(c:Int):=⟨_,(By h0).symm⟩;unfold BI;rw[A9,A9,AR (by omega)]
theorem wO (h:DK K r=true):DK (K++X) r=true:=by
 rcases Cm h with e|⟨h0,h1,hl⟩
 ·rw[e];rfl
 unfold DK;rw[NM h0 h1,hl,Ad (by rw[Ag];omega)];simp
theorem rJ (hK:Df K=true) (h:DK K r=true):Fy (K++X) r=Fy K r:=by
 unfold Fy;apply CY;intro s hs;rw[Hu]at hs;unfold QU
 rcases Cm h with e|⟨h0,h1,hl⟩
 ·rw[e];rfl
 rw[NM h0 h1];simp only[Az (show¬r<0 by omega)]
 rcases G3 hK h0 h1 hl (show s/4<4 by omega)with k1|⟨k1,k2,k3⟩
 ·rw[k1];rfl
 rw[NM k1 (by omega)]
theorem d8 (hK:Df K=true) (hr:DK K r=true) (hs:s<16) (n:Int):(O1 K r s n).length=4:=by
 unfold O1;rw[Fl]
 rcases Cm hr with e|⟨h0,h1,hl⟩
 ·rw[Ax (by omega)];rfl
 rw[Az (by omega)]
 rcases G3 hK h0 h1 hl (show s/4<4 by omega)with k1|⟨k1,k2,k3⟩
 ·rw[Ax (by omega)];rfl
 rw[Az (by omega)];exact(FN hK k1 (by omega)).1
theorem jP (hK:Df K=true) (hr:DK K r=true) (s:Nat):(SN K r s).length=4:=by
 unfold SN;rw[Fl]
 rcases Cm hr with e|⟨h0,h1,hl⟩
 ·rw[Ax (by omega)];rfl
 rw[Az (by omega)];exact(FN hK h0 h1).1
theorem Wa:BI (JH K r s n) (K.length:Int)=BJ.mk true (O1 K r s n):=by
 unfold BI JH;rw[A9,AY (A3 _),Sc];rfl
theorem VZ:BI (JH K r s n) ((K.length:Int)+1)=BJ.mk false (SN K r s):=by
 unfold BI JH;rw[show(K.length:Int)+1=((K.length+1:Nat):Int)from rfl,A9,AY (by omega),show K.length+1-K.length=1 by omega];rfl
theorem ACg (hK:Df K=true) (hr:DK K r=true) (hs:s<16) (hn:0<=n):Df (JH K r s n)=true:=by
 rw[HJ];intro j hj;have a:(JH K r s n).length=K.length+2:=by unfold JH;simp
 rw[a]at hj;by_cases h:j<K.length
 ·have hk:BI (JH K r s n) (j:Int)=BI K (j:Int):=NM (by omega) (by omega);rw[hk];obtain⟨h4,h5⟩:=HJ.1 hK j h;refine⟨h4,λm hm=>?_⟩;have:=h5 m hm
  cases hl:(BI K (j:Int)).Leaf with
  |true=>rw[hl]at this;exact this
  |false=>
   rw[hl]at this;simp only[Pq,Ac,Co,Ck,An,A6]at this⊢
   rcases this with e|⟨e1,e2⟩
   ·exact .inl e
   refine .inr ⟨e1,?_⟩;rw[show BI (JH K r s n) m=BI K m from NM e1.1 (by omega)];exact e2
 by_cases e:j=K.length
 ·subst e;rw[Wa];refine⟨d8 hK hr hs n,λm hm=>?_⟩;simp only[Pq,Ae,A6];unfold O1 at hm
  rcases CB hm with hm|hm
  ·rcases Cm hr with e|⟨h0,h1,hl⟩
   ·rw[Ax (by omega)]at hm;simp at hm;omega
   rw[Az (by omega)]at hm
   rcases G3 hK h0 h1 hl (show s/4<4 by omega)with k1|⟨k1,k2,k3⟩
   ·rw[Ax (by omega)]at hm;simp at hm;omega
   rw[Az (by omega)]at hm;have hq:=HJ.1 hK (Lg (BI K r) (s/4)).toNat (by omega);rw[By k1,k3]at hq;have:=hq.2 m hm;simpa[Pq]using this
  omega
 have:j=K.length+1:=by omega
 subst this;rw[show((K.length+1:Nat):Int)=(K.length:Int)+1 from rfl,VZ];refine⟨jP hK hr s,λm hm=>?_⟩;simp only[Pq,Ac,Co,Ck,An,A6];unfold SN at hm
 rcases CB hm with hm|hm
 ·rcases Cm hr with e|⟨h0,h1,hl⟩
  ·rw[Ax (by omega)]at hm;simp at hm;omega
  rw[Az (by omega)]at hm;obtain⟨q,hq,rfl⟩:=AG hm;obtain⟨h4,hk⟩:=FN hK h0 h1;have e5:=(hk q (by omega)).1;rw[Ab hq]at e5
  injection e5 with e5
  rw[e5]
  rcases G3 hK h0 h1 hl (show q<4 by omega)with k1|⟨k1,k2,k3⟩
  ·exact .inl k1
  refine .inr ⟨by omega,?_⟩;rw[show BI (JH K r s n) (Lg (BI K r) q)=BI K (Lg (BI K r) q)from NM k1 (by omega)];exact k3
 refine .inr ⟨by omega,?_⟩;rw[hm,Wa]
theorem tR:DK (JH K r s n) ((K.length:Int)+1)=true:=by
 unfold DK;rw[VZ,Ad (by unfold JH;simp;omega)];simp
theorem rW (hK:Df K=true) (hr:DK K r=true) (hs:s<16):Fy (JH K r s n) ((K.length:Int)+1)=(Fy K r).set s n:=by
 unfold Fy;symm;apply Ph;intro t ht;unfold QU;rw[VZ];simp only[Az (show¬((K.length:Int)+1)<0 by omega)];have a:=jP hK hr s;have b:=d8 hK hr hs n;by_cases hq:t/4=s/4
 ·have e1:Lg (BJ.mk false (SN K r s)) (t/4)=(K.length:Int):=by
   unfold Lg SN;rw[hq,Cl,Ax rfl];unfold SN at a;rw[Fl]at a;rw[Ax (by rw[a];omega)];rfl
  rw[e1,Az (by omega),Wa];have e2:Lg (BJ.mk true (O1 K r s n)) (t %4)=if t %4=s %4 then n else(if r<0 then 0 else if Lg (BI K r) (s/4)<0 then 0 else Lg (BI K (Lg (BI K r) (s/4))) (t %4)):=by
   unfold Lg O1;unfold O1 at b;rw[Fl]at b;rw[Cl];by_cases e:s %4=t %4
   ·rw[Ax e,Ax (by rw[b];omega),Ax e.symm];rfl
   rw[Az e,Az (Ft e)];have zero:([0,0,0,0]:List Int)[t %4]?.getD 0=0:=by
    have:t %4<4:=by omega
    generalize t %4=q at this
    match q,this with
    |0,_=>rfl
    |1,_=>rfl
    |2,_=>rfl
    |3,_=>rfl
   by_cases c1:r<0
   ·rw[Ax c1,Ax c1];exact zero
   rw[Az c1,Az c1];unfold Lg;by_cases c2:((BI K r).Kids[s/4]?).getD 0<0
   ·rw[Ax c2,Ax c2];exact zero
   rw[Az c2,Az c2]
  rw[e2,hq];by_cases e:t=s
  ·rw[Ax e,Ax (by rw[e])]
  rw[Az e,Az (by omega)]
 rw[Az (show¬t=s by intro e;rw[e]at hq;exact hq rfl)];have e1:Lg (BJ.mk false (SN K r s)) (t/4)=if r<0 then-1 else Lg (BI K r) (t/4):=by
  unfold Lg SN;rw[Cl,Az (Ft hq)];by_cases c1:r<0
  ·rw[Ax c1,Ax c1];have:t/4<4:=by omega
   generalize t/4=q at this
   match q,this with
   |0,_=>rfl
   |1,_=>rfl
   |2,_=>rfl
   |3,_=>rfl
  rw[Az c1,Az c1]
 rw[e1]
 rcases Cm hr with e|⟨h0,h1,hl⟩
 ·rw[e];rfl
 simp only[Az (show¬r<0 by omega)]
 rcases G3 hK h0 h1 hl (show t/4<4 by omega)with k1|⟨k1,k2,k3⟩
 ·rw[k1];rfl
 rw[show BI (JH K r s n) (Lg (BI K r) (t/4))=BI K (Lg (BI K r) (t/4))from NM k1 (by omega)]
def M4 (n:Nat) (p:Nat->Bool):Nat:=((List.range n).filter p).length
theorem LK (n:Nat) (p:Nat->Bool):M4 (n+1) p=M4 n p+(if p n=true then 1 else 0):=by
 unfold M4;rw[EC,AO,Ag];by_cases h:p n=true
 ·rw[Ax h,BD h];rfl
 rw[Az h,BA h];rfl
theorem XQ (p q:Nat->Bool):∀n,M4 n (λj=>p j||q j)<=M4 n p+M4 n q
 |0=>by simp[M4]
 |n+1=>by
  have:=XQ p q n;rw[LK,LK,LK];cases p n<;>cases q n<;>simp<;>omega
theorem ZB (x:Int):∀n,M4 n (λj=>decide (x=(j:Int)))<=1/\(x>=(n:Int)->M4 n (λj=>decide (x=(j:Int)))=0)
 |0=>by simp[M4]
 |n+1=>by
  obtain⟨h1,h2⟩:=ZB x n;rw[LK];by_cases h:x=(n:Int)
  ·have:=h2 (by omega);rw[Ax (by simpa using h)];exact⟨by omega,λh3=>by omega⟩
  rw[Az (by simpa using h)];exact⟨by omega,λh3=>by rw[h2 (by omega)]⟩
theorem zL (l:List Int) (n:Nat):M4 n (λj=>l.any λx=>decide (x=(j:Int)))<=l.length:=by
 induction l with
 |nil=>simp[M4]
 |cons x l ih=>
  simp only[List.any_cons,Ay];have:=XQ (λj=>decide (x=(j:Int))) (λj=>l.any λx=>decide (x=(j:Int))) n;have:=(ZB x n).1;omega
theorem ABk {n:Nat} {q:Nat->Bool} (h:∀j,j<n->p j=true->q j=true):M4 n p<=M4 n q:=by
 induction n with
 |zero=>simp[M4]
 |succ n ih=>
  have:=ih (λj hj=>h j (by omega));rw[LK,LK];by_cases e:p n=true
  ·rw[Ax e,Ax (h n (by omega) e)];omega
  rw[Az e];omega
theorem mQ {n:Nat} (h:∀j,j<n->p j=true):M4 n p=n:=by
 induction n with
 |zero=>rfl
 |succ n ih=>rw[LK,Ax (h n (by omega)),ih (λj hj=>h j (by omega))]
theorem ABf (hK:Df K=true) (hr:DK K r=true) (n:Nat):M4 n (NS K r)<=5:=by
 have h1:=XQ (λj=>decide (r=(j:Int))) (λj=>(BI K r).Kids.any λn=>decide (n=(j:Int))) n;have h2:=(ZB r n).1;have h3:=zL (BI K r).Kids n
 have h4:M4 n (NS K r)<=M4 n (λj=>decide (r=(j:Int))||(BI K r).Kids.any λn=>decide (n=(j:Int))):=ABk λj _ h=>by
  unfold NS at h;rw[An]at h;exact h.2
 rcases Cm hr with e|⟨h0,hl,_⟩
 ·have:M4 n (NS K r)=M4 n (λ_=>false):=by rw[e];rfl
  rw[this];unfold M4;rw[Bs.2 (by simp)];simp
 have:=(FN hK h0 hl).1;omega
theorem Yd (hK:Df K=true) (n:Nat):∀(R:List Int),(∀r∈R,DK K r=true)->M4 n (CF K R)<=5*R.length
 |[],_=>by simp[M4,CF]
 |r::R,h=>by
  have h1:=Yd hK n R (λx hx=>h x (by simp[hx]));have h2:=ABf hK (h r (by simp)) n;have h3:=XQ (NS K r) (CF K R) n;have h4:M4 n (CF K (r::R))=M4 n (λj=>NS K r j||CF K R j):=rfl;rw[h4,Ay];omega
theorem tD (hK:Df K=true) (hR:∀r∈R,DK K r=true):(SO K R).length<=5*R.length:=by
 rw[fJ];exact Yd hK _ R hR
def BG (s:Store):List Int:=s.Vols.map Vol.Root
structure StoreR (s:Store):Prop where
 len:s.Vols.length<=3
 ar:Df s.Arena.Knots=true
 nx:1<=s.Next/\s.Next<=1000000000
 ids:∀v∈s.Vols,1<=v.Id/\v.Id<=9
 asc:(s.Vols.map Vol.Id).Pairwise (·<·)
 root:∀r∈BG s,DK s.Arena.Knots r=true
 lt:∀r∈BG s,∀x∈Fy s.Arena.Knots r,x<s.Next
 few:s.Arena.Knots.length<=1000
structure Dr (s:Store):Prop extends StoreR s where
 used:∀i,i<s.Arena.Knots.length->CF s.Arena.Knots (BG s) i=true
theorem Dr.small {s:Store} (h:Dr s):s.Arena.Knots.length<=15:=by
 have h1:=Yd h.ar s.Arena.Knots.length (BG s) h.root;rw[mQ h.used]at h1;have:(BG s).length=s.Vols.length:=by unfold BG;rw[AZ]
 have:=h.len;omega
def BT (s:Store):List (Int×List Int):=s.Vols.map λv=>(v.Id,Fy s.Arena.Knots v.Root)
def Lp (s:Store):Store:=Store.mk (s.Vols.map λv=>Vol.mk v.Id (No s.Arena.Knots (BG s) v.Root)) (Arena.mk (SO s.Arena.Knots (BG s))) s.Next
theorem PV (s:Store):BG (Lp s)=(BG s).map (No s.Arena.Knots (BG s)):=by
 unfold BG Lp;simp only[FU];rfl
theorem rA {s:Store} (h:StoreR s):Dr (Lp s):=by
 have b:(BG s).length=s.Vols.length:=by unfold BG;rw[AZ]
 refine⟨⟨by unfold Lp;simpa using h.len,AB7 h.ar h.root,h.nx,?_,?_,?_,?_,?_⟩,?_⟩
 ·intro v hv;unfold Lp at hv;simp only[AL]at hv;obtain⟨w,hw,rfl⟩:=hv;exact h.ids w hw
 ·have:((Lp s).Vols.map Vol.Id)=s.Vols.map Vol.Id:=by unfold Lp;simp only[FU];rfl
  rw[this];exact h.asc
 ·intro r hr;rw[PV]at hr;obtain⟨q,hq,rfl⟩:=AL.1 hr;exact wR h.root hq
 ·intro r hr;rw[PV]at hr;obtain⟨q,hq,rfl⟩:=AL.1 hr;have:=rO h.ar h.root hq;intro x hx;have a:x∈Fy s.Arena.Knots q:=by rw[<-this];exact hx
  exact h.lt q hq x a
 ·have:=tD h.ar h.root;have:=h.len;show(SO s.Arena.Knots (BG s)).length<=1000;omega
 intro i hi;rw[PV];exact AAz h.ar h.root hi
theorem cO {s:Store} (h:StoreR s):BT (Lp s)=BT s:=by
 unfold BT;show(s.Vols.map λv=>Vol.mk v.Id (No s.Arena.Knots (BG s) v.Root)).map _=_;rw[FU];apply CY;intro v hv;have:=rO h.ar h.root (show v.Root∈BG s from AL.2 ⟨v,hv,rfl⟩);show(v.Id,Fy (SO s.Arena.Knots (BG s)) (No s.Arena.Knots (BG s) v.Root))=_;rw[this]
theorem Ta (s:Store) (hv:s.Vols.length<=1048576):N7 s=some (BG s):=by
 unfold N7;obtain⟨b,h1,h2⟩:=Bb (body:=λq:List Int×Int=>HU s q.1 q.2) (λ(o:List Int) i=>(o,i)) s.Vols.length (λi o=>o=(s.Vols.take i).map Vol.Root) (λb=>b=BG s)
  (λo i hi ho=>by
   have hx:=Ab hi;simp only[HU,A7,Ad hi,Ae,A9,hx,Aa];rw[Cg (by rw[ho];simp;omega)];simp only[Aa];rw[ad1 (by omega)]
   exact .inl ⟨_,rfl,by rw[ho,Em,hx,Cy];rfl⟩)
  (λo ho=>⟨o,by simp only[HU,A7,Al,Ap,Ac],by rw[ho,AS (A3 _)];rfl⟩) (s:=[]) rfl
 have h1':Ar (λq:List Int×Int=>HU s q.1 q.2) ([],0)=some b:=h1;rw[h1',h2];rfl
theorem JD {s:Store} (h:StoreR s):HA s=some (Lp s):=by
 have hl:=h.len;have hf:=h.few;have d:(BG s).length=s.Vols.length:=by unfold BG;rw[AZ]
 unfold HA;rw[Ta s (by omega)];simp only[Aa];rw[Yz _ (by omega) h.ar _ (by omega) h.root];simp only[Aa];rw[LO (by omega)];simp only[Aa];have q:=NL (body:=λq:Int×List Vol=>JE ((BG s).map (No s.Arena.Knots (BG s)),SO s.Arena.Knots (BG s)) q.1 q.2) (λl i=>(i,l)) (λ_ v=>Vol.mk v.Id (No s.Arena.Knots (BG s) v.Root)) s.Vols
  (λi l x a b c=>by
   have hi:=(Ah.1 b).1;simp only[JE,A7,Ad hi,Ae];have:gi ((BG s).map (No s.Arena.Knots (BG s))) (i:Int)=some (No s.Arena.Knots (BG s) x.Root):=by
    rw[A9,AT];unfold BG;rw[AT,c];rfl
   rw[this,A9,b];simp only[Aa]
   rw[Fg,ad1 (by omega)])
  (λl a=>by simp only[JE,BM,a];rw[Af (by omega),Ac])
 rw[Jm]at q;rw[q];rfl
theorem Yj {s:Store} (h:Dr s):Lp s=s:=by
 have c:∀i,i<=s.Arena.Knots.length->bA s.Arena.Knots (BG s) i=i:=λi hi=>mQ (λj hj=>h.used j (by omega))
 have a:∀n:Int,n<(s.Arena.Knots.length:Int)->No s.Arena.Knots (BG s) n=n:=λn hn=>by
  unfold No;split
  ·rw[c _ (by omega)];omega
  rfl
 have b:∀r∈BG s,No s.Arena.Knots (BG s) r=r:=λr hr=>by
  rcases Cm (h.root r hr)with e|⟨h0,h1,_⟩
  ·rw[e,Sp (by omega)]
  exact a r h1
 have d:SO s.Arena.Knots (BG s)=s.Arena.Knots:=by
  unfold SO;rw[GK.2 (λi hi=>h.used i (by simpa using hi))];apply CO;intro i;rw[AT];by_cases hi:i<s.Arena.Knots.length
  ·rw[Rd hi,Ab hi];simp only[B9];congr 1;have h0:(0:Int)<=(i:Int):=by omega
   have h1:(i:Int)<(s.Arena.Knots.length:Int):=by omega
   unfold X7
   cases hl:(BI s.Arena.Knots (i:Int)).Leaf with
   |true=>
    simp only[Ae];rw[<-hl,Pp hi]
   |false=>
    simp only[Ac];have:(BI s.Arena.Knots (i:Int)).Kids.map (No s.Arena.Knots (BG s))=(BI s.Arena.Knots (i:Int)).Kids:=by
     conv=>rhs;rw[<-TS (BI s.Arena.Knots (i:Int)).Kids]
     apply CY;intro n hn;obtain⟨q,hq,rfl⟩:=AG hn;obtain⟨h4,hk⟩:=FN h.ar h0 h1;have e5:=(hk q (by omega)).1;rw[Ab hq]at e5
     injection e5 with e5
     rw[e5]
     rcases G3 h.ar h0 h1 hl (show q<4 by omega)with k1|⟨k1,k2,k3⟩
     ·rw[k1,Sp (by omega)];rfl
     exact a _ (by omega)
    rw[this,<-hl,Pp hi]
  rw[DF (by simpa using hi),DF (by omega)];rfl
 unfold Lp;rw[d];have:(s.Vols.map λv=>Vol.mk v.Id (No s.Arena.Knots (BG s) v.Root))=s.Vols:=by
  conv=>rhs;rw[<-TS s.Vols]
  apply CY;intro v hv;rw[b _ (AL.2 ⟨v,hv,rfl⟩)];rfl
 rw[this]
theorem ZF (hs:s<16):QU K r s∈Fy K r:=AL.2 ⟨s,by simpa using hs,rfl⟩
theorem Pj {l:List Int} {y:Int} (h:l.Pairwise (·<·)) (a:i<j) (hx:l[i]?=some x) (hy:l[j]?=some y):x<y:=by
 obtain⟨h1,rfl⟩:=Ah.1 hx;obtain⟨h2,rfl⟩:=Ah.1 hy;exact Dz.1 h i j h1 h2 a
theorem Rs {s:Store} (h:Dr s):Pe s=some true:=by
 have hl:=h.len;have hf:=h.few;have d:(BG s).length=s.Vols.length:=by unfold BG;rw[AZ]
 unfold Pe;rw[BM,Af (by omega),Ac,KI _ (by omega),h.ar,EY,Ad h.nx];simp only[Aa,Aj,Ac];obtain⟨b,h1,h2⟩:=Bb (body:=λq:Int=>Ji s q) (λ(_:Unit) i=>i) s.Vols.length (λ_ _=>True) (λb=>b= .inl ())
  (λ_ i hi _=>by
   have hx:=Ab hi;have hm:s.Vols[i]∈s.Vols:=AD hi;have hr:s.Vols[i].Root∈BG s:=AL.2 ⟨_,hm,rfl⟩;simp only[Ji,A7,Ad hi,Ae,A9,hx,Aa];rw[EY,Ad (h.ids _ hm),MR _ (by omega),h.root _ hr];simp only[Aa,Aj,Ac];have a:(cond (decide ((i:Int)>0)) ((gi s.Vols (sb (i:Int) 1)).bind λx2=>cond (decide (x2.Id>=s.Vols[i].Id)) (some true) (some false)) (some false):Option Bool)=some false:=by
    by_cases h0:i=0
    ·rw[Af (by omega:¬(i:Int)>0),Ac]
    rw[Ad (by omega:(i:Int)>0),Ae,Cx (by omega) (by omega),show(i:Int)-1=((i-1:Nat):Int) by omega,A9,Ab (by omega)];simp only[Aa];have:=Pj h.asc (show i-1<i by omega) (x:=s.Vols[i-1].Id) (y:=s.Vols[i].Id) (by rw[AT,Ab (by omega)];rfl) (by rw[AT,Ab (by omega)];rfl);rw[Af (by omega),Ac]
   rw[a];simp only[Aa,Ac];obtain⟨c,q1,q2⟩:=Bb (body:=λq:Int=>Jh s s.Vols[i] q) (λ(_:Unit) i=>i) 16 (λ_ _=>True) (λb=>b= .inl ())
    (λ_ k hk _=>by
     simp only[Jh];rw[Ad (by omega:(k:Int)<16),Ae,W9 _ h.ar (h.root _ hr) hk];simp only[Aa];have:=h.lt _ hr _ (ZF hk);rw[Af (by omega),Ac,ad1 (by omega)]
     exact .inl ⟨(),rfl,trivial⟩)
    (λ_ _=>⟨_,by simp only[Jh];rw[Af (by omega:¬((16:Nat):Int)<16),Ac],rfl⟩) (s:=()) trivial
   have q1':Ar (λq:Int=>Jh s s.Vols[i] q) 0=some c:=q1;rw[q1',q2];simp only[Aa,Bn];rw[ad1 (by omega)]
   exact .inl ⟨(),rfl,trivial⟩)
  (λ_ _=>⟨_,by simp only[Ji,A7,Al,Ap,Ac],rfl⟩) (s:=()) trivial
 have h1':Ar (λq:Int=>Ji s q) 0=some b:=h1;rw[h1',h2];simp only[Aa,Bn];rw[Ta s (by omega)];simp only[Aa];rw[Yz _ (by omega) h.ar _ (by omega) h.root];simp only[Aa];have:SO s.Arena.Knots (BG s)=s.Arena.Knots:=by
  have:=Yj h;unfold Lp at this;have:=Cb (λz=>z.Arena.Knots) this;exact this
 rw[this];simp
def jK (x:BJ):Nat:=x.Kids.length
def vK (x:Arena):Nat:=zl jK x.Knots
def V7 (x:Store):Nat:=x.Vols.length+vK x.Arena
def X1 (x:AK):Nat:=Nv x.Flash+V7 x.Store
def Pr (x:Leaf):Nat:=bif x.Is==0 then 1 else 0
theorem zR (l:List Leaf):(l.map Pr).sum<=l.length:=by
 induction l with
 |nil=>simp
 |cons x l ih=>
  have:Pr x<=1:=by unfold Pr;cases x.Is==0<;>simp
  simp only[BE,FT,Ay];omega
theorem Wu (b:Block) (h:b.Leaves.length<=1048576):IM b=some ((b.Leaves.map Pr).sum:Int):=by
 unfold IM;obtain⟨v,h1,rfl⟩:=Bb (body:=λs:Int×Int=>H5 b s.1 s.2) (λ(s:Int) i=>(s,i)) b.Leaves.length (λk s=>s=(((b.Leaves.take k).map Pr).sum:Nat)) (λv=>v=((b.Leaves.map Pr).sum:Nat))
  (λs k hk hs=>by
   have hx:b.Leaves[k]?=some b.Leaves[k]:=Ab hk;have e:=Rh Pr b.Leaves k hk;have e2:=Oi Pr b.Leaves (k+1);have e3:=zR b.Leaves;refine .inl ?_;simp only[H5,A7,Ad hk,Ae,A9,hx,Aa];have e4:Pr b.Leaves[k]=bif b.Leaves[k].Is==0 then 1 else 0:=rfl
   cases hb:b.Leaves[k].Is==0 with
   |true=>
    rw[hb]at e4;simp only[Ae]at e4⊢;rw[ad1 (by omega),CD (by omega) (by omega)];exact⟨_,rfl,by omega⟩
   |false=>
    rw[hb]at e4;simp only[Ac]at e4⊢;rw[ad1 (by omega)]
    exact⟨_,rfl,by omega⟩)
  (λs hs=>⟨s,by simp only[H5,A7,Al,Ap,Ac],by rw[AN]at hs;exact hs⟩) (s:=0) (by simp)
 rw[h1];rfl
theorem Wz (f:Flash) (hf:Kb f) (hn:nl f.Blocks<=1048576):∃v:Int,Mn f=some v/\Vg f=some v/\0<=v/\v<=nl f.Blocks:=by
 unfold Mn Vg;obtain⟨v,h1,h2,h3⟩:=R9 (body:=λs:Int×Int=>Mm f s.1 s.2) (body':=λs:Int×Int=>My f s.1 s.2) (λ(s:Int) i=>(s,i)) (λ(s:Int) i=>(s,i)) f.Blocks.length (λi n=>0<=n/\n<=(((f.Blocks.take i).map λb=>b.Leaves.length).sum:Nat)) (λv=>0<=v/\v<=nl f.Blocks)
  (λn i hi hs=>by
   have hb:f.Blocks[i]?=some f.Blocks[i]:=Ab hi;have hm:f.Blocks[i]∈f.Blocks:=AD _;have d:=Rh (λb:Block=>b.Leaves.length) f.Blocks i hi;have g:=Oi (λb:Block=>b.Leaves.length) f.Blocks (i+1);unfold nl at hn;have h:=hf.1;have c:=hf.2 _ hm;have j:=zR f.Blocks[i].Leaves;refine .inl ?_;simp only[Mm,My,A7,Ad hi,Ae,A9,hb,Aa,Wu _ c];obtain⟨u,q1,rfl⟩:=Bb (body:=λs:Int×Int=>Ml f (i:Int) s.1 s.2) (λ(s:Int) i=>(s,i)) f.Blocks[i].Leaves.length (λk s=>s=n+(bif f.Blocks[i].Bad then 0 else((f.Blocks[i].Leaves.take k).map Pr).sum:Nat)) (λv=>v=n+(bif f.Blocks[i].Bad then 0 else(f.Blocks[i].Leaves.map Pr).sum:Nat))
    (λs k hk hs=>by
     have hx:f.Blocks[i].Leaves[k]?=some f.Blocks[i].Leaves[k]:=Ab hk;have e:=Rh Pr f.Blocks[i].Leaves k hk;have e2:=Oi Pr f.Blocks[i].Leaves (k+1);refine .inl ?_;simp only[Ml,A9,hb,Aa,A7,Ad hk,Ae,hx]
     cases a:f.Blocks[i].Bad with
     |true=>
      rw[a]at hs;simp only[Aj,Ac,Ae]at hs⊢;rw[ad1 (by omega)];exact⟨_,rfl,hs⟩
     |false=>
      rw[a]at hs;simp only[AC,Ac,Ae]at hs⊢;have e4:Pr f.Blocks[i].Leaves[k]=bif f.Blocks[i].Leaves[k].Is==0 then 1 else 0:=rfl
      cases hb:f.Blocks[i].Leaves[k].Is==0 with
      |true=>
       rw[hb]at e4;simp only[Ae]at e4⊢;rw[ad1 (by omega),CD (by omega) (by omega)];exact⟨_,rfl,by omega⟩
      |false=>
       rw[hb]at e4;simp only[Ac]at e4⊢;rw[ad1 (by omega)]
       exact⟨_,rfl,by omega⟩)
    (λs hs=>⟨s,by simp only[Ml,A9,hb,Aa,A7,Al,Ap,Ac],by rw[AN]at hs;exact hs⟩) (s:=n) (by cases f.Blocks[i].Bad<;>simp)
   rw[q1];simp only[Aa]
   cases f.Blocks[i].Bad with
   |true=>
    simp only[Ae,Aj,Ac];rw[ad1 (by omega)];exact⟨_,rfl,by simp,by omega,by omega⟩
   |false=>
    simp only[Ae,AC,Ac];rw[ad1 (by omega),CD (by omega) (by omega)]
    exact⟨_,rfl,rfl,by omega,by omega⟩)
  (λn hs=>by
   rw[AN]at hs
   exact⟨n,by simp only[Mm,A7,Al,Ap,Ac],by simp only[My,A7,Al,Ap,Ac],hs⟩) (s:=0) (by simp)
 rw[h1,h2];exact⟨v,rfl,rfl,h3⟩
end Go.TI
