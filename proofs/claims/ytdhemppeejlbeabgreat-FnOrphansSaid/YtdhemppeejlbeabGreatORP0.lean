/- A page of a chunk that no transaction behind it names. No condition; no program is in sight. -/
import Derived.Test.YtdhemppeejlbeabGreatORD
set_option linter.unusedVariables false
set_option linter.unusedSimpArgs false
namespace Go.TI
open Go
def u32 (s:Int):Prop:=0<=s/\s<4294967296
theorem kH (s:Int) (hs:u32 s):∃v,Av (λs:Int×Int=>Iq s.1 s.2) (s,0)=some v/\Av (λs:Int×Int=>I2 s.1 s.2) (s,0)=some v/\u32 v:=
 Td (body:=λs:Int×Int=>Iq s.1 s.2) (body':=λs:Int×Int=>I2 s.1 s.2) (λ(s:Int) i=>(s,i)) 8 (λ_ s=>u32 s) u32
  (λs i hi hs=>by
   simp only [Iq,I2];rw [Ad (by omega:(i:Int)<8),Af,Af,an1 hs.1 hs.2,<-AAj hs.1 hs.2];refine⟨rfl,.inl ?_⟩;have hw:u32 (IntKind.u32.wrap (Int.tdiv s 2)):=by rw [IntKind.wrap_u32];constructor<;>omega
   cases Int.tmod s 2==1
   ·exact⟨_,by rw [Ac,ad1 (by omega)],hw⟩
   exact⟨_,by rw [Af,ad1 (by omega)],wT _ _⟩)
  (λs hs=>by
   simp only [Iq,I2]
   exact⟨rfl,s,rfl,hs⟩) (s:=s) hs
theorem kG (s:Int) (t:ByteArray) (hs:u32 s) (ht:(L t).length<=9223372036854775806):∃v,QI s t=some v/\QY s t=some v/\u32 v:=by
 obtain⟨v,h1,h2,h3⟩:=Td (body:=λs:Int×Int=>JH t s.1 s.2) (body':=λs:Int×Int=>JU t s.1 s.2) (λ(s:Int) i=>(s,i)) (L t).length (λ_ s=>u32 s) u32
  (λs i hi hs=>by
   obtain⟨v,h1,h2,h3⟩:=kH (xr s (IntKind.u32.wrap ((L t)[i]).toNat)) (wT _ _);simp only [JH,JU];rw [Ad (by rw [BJ];omega:(i:Int)<Gi t),Af,Af,EM t hi,Aa,Aa,h1,h2]
   exact⟨rfl,.inl ⟨v,by rw [Aa,ad1 (by omega)],h3⟩⟩)
  (λs hs=>by
   simp only [JH,JU];rw [Ae (by rw [BJ];omega:¬((L t).length:Int)<Gi t),Ac,Ac]
   exact⟨rfl,s,rfl,hs⟩) (s:=s) hs
 unfold QI QY;rw [h1,h2];exact⟨v,rfl,rfl,h3⟩
theorem gE (t:ByteArray) (ht:(L t).length<=9223372036854775806):∃v,MR t=some v/\VK t=some v/\u32 v:=by
 obtain⟨v,h1,h2,h3⟩:=kG 4294967295 t ⟨by omega,by omega⟩ ht;unfold MR VK;rw [h1,h2];exact⟨v,rfl,rfl,h3⟩
def four (v:Int):ByteArray:=HC [(IntKind.u8.wrap (Int.fdiv v (2^(min (24:Int).toNat IntKind.u32.bits)))),(IntKind.u8.wrap (Int.fdiv v (2^(min (16:Int).toNat IntKind.u32.bits)))),(IntKind.u8.wrap (Int.fdiv v (2^(min (8:Int).toNat IntKind.u32.bits)))),(IntKind.u8.wrap v)]
theorem Tp (v:Int):(L (four v)).length=4:=by rw [four,Jg];rfl
theorem o5 (t:ByteArray):Tl t=JI t:=by
 unfold Tl JI;by_cases h:(Gi t)>20000
 ·rw [Ad h];rfl
 rw [Ae h,Ac,Ac];rw [BJ]at h;obtain⟨v,h1,h2,_⟩:=gE t (by omega);rw [h1,h2];rfl
theorem Uq (t:ByteArray):(20000<(L t).length->JI t=some (bs [],false))/\((L t).length<=20000->∃v,MR t=some v/\JI t=some (t++four v,true)):=by
 unfold JI;rw [BJ];refine⟨λh=>by rw [Ad (by omega),Af],λh=>?_⟩;obtain⟨v,h1,h2,_⟩:=gE t (by omega);rw [Ae (by omega),Ac,h1];refine⟨v,rfl,?_⟩;have:Kq v=some (four v):=rfl;rw [Aa,this,Aa,Gd _ _ (by rw [Tp];omega),Aa]
theorem gB (t:ByteArray) (ht:(L t).length<=9223372036854775806):∃u ok,Kr t=some (u,ok)/\OP t=some (u,ok)/\(ok=true->(L u).length<=20000/\∃v,MR u=some v/\t=u++four v)/\(ok=false->u=bs []):=by
 unfold Kr OP;have e4:sb (Gi t) 4=((L t).length:Int)-4:=by rw [BJ,C5 (by omega) (by omega)]
 rw [e4];by_cases h4:(L t).length<4
 ·rw [Ad (by omega:((L t).length:Int)-4<0),Ad (by rw [BJ];omega:Gi t<4)];exact⟨bs [],false,rfl,rfl,by simp,λ_=>rfl⟩
 rw [Ae (by omega:¬((L t).length:Int)-4<0),Ae (by rw [BJ];omega:¬Gi t<4)];simp only [Ac];have en:((L t).length:Int)-4=(((L t).length-4:Nat):Int):=by omega
 rw [en,BJ];have b:sub t 0 (((L t).length-4:Nat):Int)=some (t.extract 0 ((L t).length-4)):=Fi t (i:=0) (by omega) (by omega);have a:sub t (((L t).length-4:Nat):Int) ((L t).length:Int)=some (t.extract ((L t).length-4) (L t).length):=Fi t (by omega) (by omega);rw [b,a];simp only [Aa];have hu:(L (t.extract 0 ((L t).length-4))).length=(L t).length-4:=by rw [Ik];simp
 obtain⟨k1,k2⟩:=Uq (t.extract 0 ((L t).length-4));rw [o5];by_cases hb:20000<(L t).length-4
 ·rw [Ad (by omega:(((L t).length-4:Nat):Int)>20000),k1 (by omega)];exact⟨bs [],false,rfl,rfl,by simp,λ_=>rfl⟩
 obtain⟨v,h1,h2⟩:=k2 (by omega);rw [Ae (by omega:¬(((L t).length-4:Nat):Int)>20000),h1,h2];have h3:Kq v=some (four v):=rfl;simp only [Ac,Aa,h3,Ak];have c:seq (t.extract ((L t).length-4) (L t).length) (four v)=seq (t.extract 0 ((L t).length-4)++four v) t:=by
  rw [PJ,PJ,DB,Ik,Ik,Ee,A7,A7];have e1:List.take ((L t).length-((L t).length-4)) (List.drop ((L t).length-4) (L t))=(L t).drop ((L t).length-4):=AP (by simp);have e2:List.take ((L t).length-4-0) (List.drop 0 (L t))=(L t).take ((L t).length-4):=by simp
  rw [e1,e2];constructor
  ·intro h;rw [<-h,Bz]
  intro h;have h':(L t).take ((L t).length-4)++L (four v)=(L t).take ((L t).length-4)++(L t).drop ((L t).length-4):=by rw [Bz];exact h
  exact(List.append_cancel_left h').symm
 rw [c]
 cases hs:seq (t.extract 0 ((L t).length-4)++four v) t with
 |false=>exact⟨bs [],false,rfl,rfl,by simp,λ_=>rfl⟩
 |true=>
  rw [ID,A7]at hs;exact⟨_,true,rfl,rfl,λ_=>⟨by omega,v,h1,hs.symm⟩,by simp⟩
theorem Jw (n:Nat) (h:n<=1099511627776):∃s,II (n:Int)=some s/\L s=Cv n:=by
 unfold II;obtain⟨m,o,h1,h2,h3,h4⟩:=Zy (body:=λs:Int×List Int=>PL s.1 s.2) (λ_ _=>rfl) n [] (by simpa using h);rw [h1,Aa];have:IntKind.u8.wrap (m:Int)=m:=by rw [IntKind.wrap_u8];omega
 rw [this,Cq (by simp only [An,Bm]at h3⊢;omega),Aa];refine⟨_,rfl,?_⟩;rw [Jg,h4];simp
def wZ (t:ByteArray) (at_:Int) (r:Int×Int×Bool):Prop:=
 (r.2.2=false/\r.1=0/\r.2.1=0)\/(r.2.2=true/\∃(a b n:Nat),at_=a/\r.2.1=b/\r.1=n/\a<b/\b<=(L t).length/\n<=1000000000/\Cv n=((L t).drop a).take (b-a))
theorem Wl (l:List UInt8) (a k:Nat) (h:a+k<l.length):(l.drop a).take (k+1)=(l.drop a).take k++ [l[a+k]]:=by
 rw [Ap (by simp;omega),Sq]
theorem aW (k:Nat) (h:k<5):(128:Nat)^k<=268435456:=by
 have:k<=4:=by omega
 calc 128^k<=128^4:=Nat.pow_le_pow_right (by omega) this
  _=268435456:=by decide
theorem V3:∀ds:List UInt8,EQ ds<128^ds.length
 |[]=>by simp [EQ]
 |d::ds=>by
  have:=V3 ds;simp only [EQ,Az,Vv];omega
theorem uQ (x k:Nat) (hx:x<128) (hk:k<5):shl .i64 (x:Int) (ml 7 (k:Int))=some ((x*128^k:Nat):Int):=by
 have h7:ml 7 (k:Int)=((7*k:Nat):Int):=by rw [NI (by omega) (by omega)];omega
 unfold shl;rw [h7,Ax (by omega)];have e:(2:Int)^(min ((7*k:Nat):Int).toNat IntKind.i64.bits)=((128^k:Nat):Int):=by
  have hb:IntKind.i64.bits=64:=rfl;have h128:(128:Nat)^k=2^(7*k):=by rw [Nat.pow_mul]
  rw [hb,Ba,Nat.min_eq_left (by omega),h128]
  norm_cast
 rw [e];have hp:=aW k hk;have hm:x*128^k<=128*268435456:=Yt (by omega) hp;have ec:(x:Int)*((128^k:Nat):Int)=((x*128^k:Nat):Int):=by norm_cast
 rw [ec,N2 (by omega) (by omega)]
theorem ZM (x:Nat):Int.tmod (x:Int) 128=((x %128:Nat):Int):=rfl
theorem Ii (t:ByteArray) (at_:Int) (ht:(L t).length<=4611686018427387904) (p:oI at_):∃r,Jq t at_=some r/\J0 t at_=some r/\wZ t at_ r:=by
 have fails:∀(at_:Int),(at_<0\/((L t).length:Int)<=at_)->oI at_->J0 t at_=some (0,0,false):=by
  intro at_ h p;unfold J0;rw [AA];simp only [Hf];rw [Ad (by omega:(0:Int)<5),Af];by_cases h0:at_>=0
  ·rw [Ad h0,Af,BJ,C5 (by omega) (by omega),Ae (by omega)];rfl
  rw [Ae h0];rfl
 by_cases h5:0<=at_/\at_<(L t).length
 ·obtain⟨a,rfl⟩:=CG h5.1;have ha:a<(L t).length:=by omega
  have h6:∀(B1:Int×Int×Int->Option ((Int×Int×Int)⊕((Unit)⊕((Int×Int×Bool))))) (B2:Int×Int->Option ((Int×Int)⊕((Unit)⊕((Int×Int×Bool))))),(∀n sc i,B1 (n,sc,i)=DK t (a:Int) n sc i)->(∀n k,B2 (n,k)=Hf t (a:Int) n k)->∀(m k:Nat),k+m=5->a+k<=(L t).length->(∀d∈((L t).drop a).take k,128<=d.toNat)->
    ∃r,(Av B1 (((EQ (((L t).drop a).take k):Nat):Int),((128^k:Nat):Int),((a+k:Nat):Int))=some r/\Av B2 (((EQ (((L t).drop a).take k):Nat):Int),(k:Int))=some r)/\(r= .inl ()\/∃q,r= .inr q/\wZ t (a:Int) q):=by
   intro B1 B2 u v m
   induction m with
   |zero=>
    intro k hk h7 hd;have f:k=5:=by omega
    subst f;refine⟨.inl (),⟨?_,?_⟩,.inl rfl⟩
    ·rw [AA];simp only [u,DK];rw [Cx (by omega) (by omega),Ae (by omega:¬((a+5:Nat):Int)<(a:Int)+5)];cases decide (((a+5:Nat):Int)<Gi t)<;>rfl
    rw [AA];simp only [v,Hf];rw [Ae (by omega:¬((5:Nat):Int)<5)];rfl
   |succ m ih=>
    intro k hk h7 hd;rw [AA,AA B2];simp only [u,v,DK,Hf];have f:k<5:=by omega
    rw [Cx (b:=5) (by omega) (by omega),Ad (by omega:((a+k:Nat):Int)<(a:Int)+5),Ad (by omega:(k:Int)<5),Ad (by omega:(a:Int)>=0),BJ,C5 (by omega) (by omega)];by_cases w:a+k<(L t).length
    ·rw [Ad (by omega:((a+k:Nat):Int)<((L t).length:Int)),Ad (by omega:(a:Int)<((L t).length:Int)-k)];have eak:ad (a:Int) (k:Int)=((a+k:Nat):Int):=by rw [Cx (by omega) (by omega)];omega
     simp only [Af,Aa,EM t w,eak];have hx:=dF ((L t)[a+k]);have g:=Wl (L t) a k w;have l:(((L t).drop a).take k).length=k:=by simp;omega
     have j:=ML (((L t).drop a).take k) [(L t)[a+k]];rw [<-g,l]at j;have h8:=V3 (((L t).drop a).take k);rw [l]at h8;have hp:=aW k f;generalize a4:(L t)[a+k]=x at hx g j;simp only [EQ,Nat.mul_zero,Gl]at j;have hw:IntKind.i64.wrap (x.toNat:Int)=x.toNat:=N2 (by omega) (by omega);have a2:x.toNat %128*128^k<=127*268435456:=Yt (by omega) hp;have emul:ml ((x.toNat %128:Nat):Int) ((128^k:Nat):Int)=((x.toNat %128*128^k:Nat):Int):=by
      have ec:((x.toNat %128:Nat):Int)*((128^k:Nat):Int)=((x.toNat %128*128^k:Nat):Int):=by norm_cast
      rw [NI (by rw [ec];omega) (by rw [ec];omega),ec]
     have enew:ad (((EQ (((L t).drop a).take k):Nat)):Int) ((x.toNat %128*128^k:Nat):Int)=((EQ (((L t).drop a).take (k+1)):Nat):Int):=by
      rw [Cx (by omega) (by omega),j,kL (128^k)];omega
     rw [hw,ZM,uQ _ k (by omega) f];simp only [Aa,emul,enew];by_cases o:x.toNat<128
     ·rw [Ad (by omega:(x.toNat:Int)<128),Ae (by omega:¬(x.toNat:Int)>=128)];simp only [Af,Ac];have ek1:ad ((a+k:Nat):Int) 1=((a+k+1:Nat):Int):=ad1 (by omega);have c:=Zx (((L t).drop a).take k) x hd o;rw [<-g]at c;have h9:(((L t).drop a).take k≠ [])↔0<k:=by
       rw [<-Gg,l]
      rw [h9]at c;have y:sub t (a:Int) ((a+k+1:Nat):Int)=some (t.extract a (a+k+1)):=Fi t (by omega) (by omega);rw [ek1,y];by_cases a3:EQ (((L t).drop a).take (k+1))>1000000000
      ·rw [Ad (by omega:((EQ (((L t).drop a).take (k+1)):Nat):Int)>1000000000)];refine⟨.inr (0,0,false),⟨rfl,?_⟩,.inr ⟨_,rfl,.inl ⟨rfl,rfl,rfl⟩⟩⟩;cases(x.toNat:Int)==0
       ·rfl
       cases decide ((k:Int)>0)<;>rfl
      rw [Ae (by omega:¬((EQ (((L t).drop a).take (k+1)):Nat):Int)>1000000000)];obtain⟨s,a0,a1⟩:=Jw (EQ (((L t).drop a).take (k+1))) (by omega);simp only [Ac,Aa,a0];have z:seq s (t.extract a (a+k+1))=decide (¬(x.toNat=0/\0<k)):=by
       rw [PJ,a1,Ik,show a+k+1-a=k+1 by omega,Ee,A7,A7];exact c
      rw [z];by_cases hz:x.toNat=0/\0<k
      ·rw [Ae (λe=>e hz)];refine⟨.inr (0,0,false),⟨rfl,?_⟩,.inr ⟨_,rfl,.inl ⟨rfl,rfl,rfl⟩⟩⟩;have:((x.toNat:Int)==0)=true:=by rw [hz.1];rfl
       rw [this,Ad (by omega:(k:Int)>0)];rfl
      rw [Ad hz];refine⟨.inr (((EQ (((L t).drop a).take (k+1)):Nat):Int),((a+k+1:Nat):Int),true),⟨rfl,?_⟩,.inr ⟨_,rfl,.inr ⟨rfl,a,a+k+1,_,rfl,rfl,rfl,by omega,by omega,by omega,?_⟩⟩⟩
      ·by_cases h4:x.toNat=0
       ·have:((x.toNat:Int)==0)=true:=by rw [h4];rfl
        rw [this,Ae (by omega:¬(k:Int)>0)];rfl
       have:((x.toNat:Int)==0)=false:=by simpa using h4
       rw [this];rfl
      rw [show a+k+1-a=k+1 by omega];exact c.2 hz
     rw [Ae (by omega:¬(x.toNat:Int)<128),Ad (by omega:(x.toNat:Int)>=128)];simp only [Af,Ac];have e1:ml ((128^k:Nat):Int) 128=((128^(k+1):Nat):Int):=by
      rw [NI (by omega) (by omega),Vv];norm_cast
     have e2:ad ((a+k:Nat):Int) 1=((a+(k+1):Nat):Int):=ad1 (by omega);have e3:ad (k:Int) 1=((k+1:Nat):Int):=ad1 (by omega);rw [e1,e2,e3]
     exact ih (k+1) (by omega) (by omega) (by
      rw [g];intro d hd'
      rcases Ai.1 hd' with hd'|hd'
      ·exact hd d hd'
      simp at hd';subst hd';omega)
    rw [Ae (by omega:¬((a+k:Nat):Int)<((L t).length:Int)),Ae (by omega:¬(a:Int)<((L t).length:Int)-k)];exact⟨.inl (),⟨rfl,rfl⟩,.inl rfl⟩
  obtain⟨r,⟨h1,h2⟩,h3⟩:=h6 (λs=>DK t (a:Int) s.1 s.2.1 s.2.2) (λs=>Hf t (a:Int) s.1 s.2) (λ_ _ _=>rfl) (λ_ _=>rfl) 5 0 rfl (by omega) (by simp);unfold Jq J0;have hw:Cc (a:Int) 0 (Gi t)=some true:=by
   unfold Cc;rw [Ad (by omega:(a:Int)>=0),Af,BJ,Ad (by omega)]
  rw [hw];simp only [Aa,Ak,Ac];simp only [GO,EQ,Nat.pow_zero,Gl]at h1 h2;rw [show((0:Nat):Int)=0 from rfl,show((1:Nat):Int)=1 from rfl]at h1;rw [show((0:Nat):Int)=0 from rfl]at h2;rw [h1,h2]
  rcases h3 with rfl|⟨q,rfl,h3⟩
  ·exact⟨_,rfl,rfl,.inl ⟨rfl,rfl,rfl⟩⟩
  exact⟨q,rfl,rfl,h3⟩
 have hf:=fails at_ (by omega) p;refine⟨(0,0,false),?_,hf,.inl ⟨rfl,rfl,rfl⟩⟩;unfold Jq;by_cases h0:0<=at_/\at_<=(L t).length
 ·have hw:Cc at_ 0 (Gi t)=some true:=by
   unfold Cc;rw [Ad (by omega:at_>=0),Af,BJ,Ad (by omega)]
  rw [hw];simp only [Aa,Ak,Ac];rw [AA];simp only [DK];rw [Ae (by rw [BJ];omega:¬at_<Gi t)];rfl
 have hw:Cc at_ 0 (Gi t)=some false:=by
  unfold Cc;by_cases h1:at_>=0
  ·rw [Ad h1,Af,BJ,Ae (by omega)]
  rw [Ae h1,Ac]
 rw [hw];rfl
theorem fQ:Jc=Cc:=rfl
variable {r n x:Int} {R:List Int} {i j k:Nat} {s:Store} {α γ:Type} {v:Vol} {p:Nat->Bool} {l:List α}
theorem D6 {i:Int} {x:α} (h:gi l i=some x):0<=i/\l[i.toNat]?=some x:=by
 unfold gi at h;split at h
 ·exact⟨by assumption,h⟩
 cases h
theorem jU:Rb=Hr:=by
 have h2:LS=FL:=by
  funext x y;unfold LS FL
  cases decide (y<ln x.Leaves)with
  |false=>rfl
  |true=>
   simp only [Af]
   cases gi x.Leaves y with
   |none=>rfl
   |some z=>rfl
 funext f;unfold Rb Hr;have:LT f=FM f:=by
  funext i;unfold LT FM;rw [h2];rfl
 rw [this];rfl
def cK (f:Flash):Prop:=f.Blocks.length<=1048576/\∀b∈f.Blocks,b.Leaves.length<=1048576
theorem Xa (x a b:Int):Cc x a b=some (decide (a<=x)&&decide (x<=b)):=by
 unfold Cc;by_cases h:x>=a
 ·rw [Ad h,Af,CJ]
 rw [Ae h,Ac,Bool.false_and]
theorem Uu (p:Page):∃v,JM p=some v/\Tm p=some v/\(v=true->(p.Kind=1\/p.Kind=2)/\(1<=p.Seq/\p.Seq<=1000000000)/\(1<=p.Tx/\p.Tx<=1000000000)/\(1<=p.Count/\p.Count<=9)/\(0<=p.Part/\p.Part<p.Count)/\Gi p.Text<=90):=by
 unfold JM Tm;rw [fQ];simp only [Xa,Aa];by_cases h1:1<=p.Seq/\p.Seq<=1000000000
 ·by_cases h2:1<=p.Tx/\p.Tx<=1000000000
  ·by_cases h3:1<=p.Count/\p.Count<=9
   ·have e:sb p.Count 1=p.Count-1:=C5 (by omega) (by omega);rw [e];by_cases h4:0<=p.Part/\p.Part<=p.Count-1
    ·by_cases h5:Gi p.Text>90
     ·refine⟨false,?_,?_,by simp⟩
      ·cases hk:(decide (1<=p.Kind)&&decide (p.Kind<=2))<;>simp [h1,h2,h3,h4,h5]
      simp [h1,h2,h3,h4,h5]
     by_cases k2:p.Kind=2
     ·exact⟨true,by simp [h1,h2,h3,h4,h5,k2],by simp [h1,h2,h3,h4,h5,k2],λ_=>⟨.inr k2,h1,h2,h3,⟨h4.1,by omega⟩,by omega⟩⟩
     by_cases k1:p.Kind=1
     ·exact⟨p.Count==1,by simp [h1,h2,h3,h4,h5,k1],by simp [h1,h2,h3,h4,h5,k1],λ_=>⟨.inl k1,h1,h2,h3,⟨h4.1,by omega⟩,by omega⟩⟩
     have hk:(decide (1<=p.Kind)&&decide (p.Kind<=2))=false:=by
      rw [Ea,AX,AX];omega
     have e1:(p.Kind==1)=false:=by simpa using k1
     have e2:(p.Kind==2)=false:=by simpa using k2
     exact⟨false,by simp [hk],by simp [h1,h2,h3,h4,h5,e1,e2],by simp⟩
    have e4:(decide (0<=p.Part)&&decide (p.Part<=p.Count-1))=false:=by
     rw [Ea,AX,AX];omega
    refine⟨false,?_,?_,by simp⟩
    ·cases hk:(decide (1<=p.Kind)&&decide (p.Kind<=2))<;>simp [h1,h2,h3,e4]
    simp [h1,h2,h3,e4]
   have e3:(decide (1<=p.Count)&&decide (p.Count<=9))=false:=by
    rw [Ea,AX,AX];omega
   refine⟨false,?_,?_,by simp⟩
   ·cases hk:(decide (1<=p.Kind)&&decide (p.Kind<=2))<;>simp [h1,h2,e3]
   simp [h1,h2,e3]
  have e2:(decide (1<=p.Tx)&&decide (p.Tx<=1000000000))=false:=by
   rw [Ea,AX,AX];omega
  refine⟨false,?_,?_,by simp⟩
  ·cases hk:(decide (1<=p.Kind)&&decide (p.Kind<=2))<;>simp [h1,e2]
  simp [h1,e2]
 have e1:(decide (1<=p.Seq)&&decide (p.Seq<=1000000000))=false:=by
  rw [Ea,AX,AX];omega
 refine⟨false,?_,?_,by simp⟩
 ·cases hk:(decide (1<=p.Kind)&&decide (p.Kind<=2))<;>simp [e1]
 simp [e1]
def Za:Page:=Page.mk 0 0 0 0 0 (bs [])
theorem Hd (u:ByteArray) (a:Int) (hu:(L u).length<=20000) (ha:oI a):Do (El.mk u a true)=some (0,El.mk u a true):=by
 obtain⟨r,h1,_,_⟩:=Ii u a (by omega) ha;unfold Do;simp only [h1,Aa,Af]
theorem Jv {r:Int×Int×Bool} (u:ByteArray) (a:Int) (hu:(L u).length<=20000) (h:Jq u a=some r):Do (El.mk u a false)=some (bif r.2.2 then(r.1,El.mk u r.2.1 false)else(0,El.mk u a true)):=by
 unfold Do;simp only [h,Aa,Ac];cases r.2.2<;>rfl
theorem Pf {a b:Nat} (l:List UInt8) (h:a<=b):l.drop a=(l.drop a).take (b-a)++l.drop b:=by
 have:=(Bz (b-a) (l.drop a)).symm;rw [CB,show a+(b-a)=b by omega]at this;exact this
theorem Vh (p:Page) (u:ByteArray) (k:UInt8) (n1 n2 n3 n4:Nat) (hp:JM p=some true) (hk:p.Kind=(k.toNat:Int)) (h1:p.Seq=n1) (h2:p.Tx=n2) (h3:p.Part=n3) (h4:p.Count=n4) (b1:n1<=1000000000) (b2:n2<=1000000000) (b3:n3<=1000000000) (b4:n4<=1000000000) (hu:(L u).length<=20000) (e:L u=[k]++Cv n1++Cv n2++Cv n3++Cv n4++L p.Text):EY p=JI u:=by
 obtain⟨s1,q1,r1⟩:=Jw n1 (by omega);obtain⟨s2,q2,r2⟩:=Jw n2 (by omega);obtain⟨s3,q3,r3⟩:=Jw n3 (by omega);obtain⟨s4,q4,r4⟩:=Jw n4 (by omega);have hl:=Ca List.length e;simp only [Ah,An]at hl;have hb:LZ p.Kind=some (HC [IntKind.u8.wrap p.Kind]):=rfl;have a:L (HC [IntKind.u8.wrap p.Kind])=[k]:=by
  rw [Jg,hk,IntKind.wrap_u8];have:=dF k;have e2:((k.toNat:Int) %256).toNat=k.toNat:=by omega
  simp only [B8,kM,e2,UInt8.ofNat_toNat]
 unfold EY;rw [hp];simp only [Aa,Ak,Ac,hb,h1,h2,h3,h4,q1,q2,q3,q4];rw [Gd _ _ (by rw [a,r1];simp only [An];omega),Aa];rw [Gd _ _ (by rw [DB,a,r1,r2];simp only [Ah,An];omega),Aa];rw [Gd _ _ (by rw [DB,DB,a,r1,r2,r3];simp only [Ah,An];omega),Aa];rw [Gd _ _ (by rw [DB,DB,DB,a,r1,r2,r3,r4];simp only [Ah,An];omega),Aa];rw [Gd _ _ (by rw [DB,DB,DB,DB,a,r1,r2,r3,r4];simp only [Ah,An];omega),Aa];have:HC [IntKind.u8.wrap p.Kind]++s1++s2++s3++s4++p.Text=u:=by
  apply Ij;rw [DB,DB,DB,DB,DB,a,r1,r2,r3,r4,e]
 rw [this]
 cases JI u with
 |none=>rfl
 |some v=>rfl
theorem J7 (t:ByteArray) (ht:(L t).length<=9223372036854775806):∃p ok,EX t=some (p,ok)/\OU t=some (p,ok)/\(ok=false->p=Za)/\(ok=true->JM p=some true):=by
 obtain⟨u,uok,k,m,n,o⟩:=gB t ht;unfold EX OU;rw [k,m];simp only [Aa];have o1:oI 1:=⟨by omega,by omega⟩
 cases uok with
 |false=>
  have:=o rfl;subst this;have hz:(L (bs [])).length<=20000:=by rw [DP];simp
  simp only [AH,Af,Aa,Hd _ _ hz o1];exact⟨Za,false,rfl,rfl,λ_=>rfl,by simp⟩
 |true=>
  obtain⟨f,v,hv,q⟩:=n rfl;simp only [Ak,Ac,Aa];by_cases he:(L u).length<1
  ·have h:seq u (bs [])=true:=by
    rw [PJ,A7,DP];exact A9 (by omega)
   rw [Ad (by rw [BJ];omega:Gi u<1),h];simp only [Af,Hd _ _ f o1,Aa];exact⟨Za,false,rfl,rfl,λ_=>rfl,by simp⟩
  have h:seq u (bs [])=false:=by
   rw [PJ,AX,DP];intro e;rw [e]at he;simp at he
  rw [Ae (by rw [BJ];omega:¬Gi u<1),h];simp only [Ac];have four_:∀(B:Int×Int×Int×Int×Int×Int->Option ((Int×Int×Int×Int×Int×Int)⊕((Int×Int×Int×Int×Int)⊕((Page×Bool))))),(∀x y a b c d,B (x,y,a,b,c,d)=Ew (u,true) x y a b c d)->
    ∃(a:Int) (m1 m2 m3 m4:Int) (bad:Bool),(∃c1 c2 c3,Do (El.mk u 1 false)=some (m1,c1)/\Do c1=some (m2,c2)/\Do c2=some (m3,c3)/\Do c3=some (m4,El.mk u a bad))/\
     Av B (1,0,0,0,0,0)=some (bif bad then .inr (Za,false)else .inl (a,m1,m2,m3,m4))/\(bad=false->∃(a1 a2 a3 a4 n1 n2 n3 n4:Nat),m1=n1/\m2=n2/\m3=n3/\m4=n4/\a=a4/\1<a1/\a1<a2/\a2<a3/\a3<a4/\a4<=(L u).length/\n1<=1000000000/\n2<=1000000000/\n3<=1000000000/\n4<=1000000000/\
      Cv n1=((L u).drop 1).take (a1-1)/\Cv n2=((L u).drop a1).take (a2-a1)/\Cv n3=((L u).drop a2).take (a3-a2)/\Cv n4=((L u).drop a3).take (a4-a3)):=by
   intro B hB;obtain⟨r1,p1,q1,w1⟩:=Ii u 1 (by omega) o1;have g1:=Jv u 1 f p1;rw [AA,hB];unfold Ew;rw [Ad (by omega:(0:Int)<4),Af,q1,Aa]
   rcases w1 with⟨w1,w2,w3⟩|⟨w1,a0',a1,n1,z0,z1,z2,z3,z4,z5,z6⟩
   ·rw [w1]at g1⊢;exact⟨1,0,0,0,0,true,⟨_,_,_,g1,Hd u 1 f o1,Hd u 1 f o1,Hd u 1 f o1⟩,rfl,by simp⟩
   have ea0:a0'=1:=by omega
   subst ea0;rw [w1]at g1⊢;have x1:oI r1.2.1:=⟨by omega,by omega⟩;simp only [Ak,Ac,Af]at g1⊢;rw [show((0:Int)==0)=true from rfl,Af,show ad 0 1=1 from ad1 (i:=0) (by omega)];simp only;obtain⟨r2,p2,q2,y1⟩:=Ii u r1.2.1 (by omega) x1;have g2:=Jv u r1.2.1 f p2;rw [AA,hB];unfold Ew;rw [Ad (by omega:(1:Int)<4),Af,q2,Aa]
   rcases y1 with⟨y1,_,_⟩|⟨y1,b0,a2,n2,y2,y3,y4,y5,y6,y7,y8⟩
   ·rw [y1]at g2⊢;exact⟨r1.2.1,r1.1,0,0,0,true,⟨_,_,_,g1,g2,Hd u _ f x1,Hd u _ f x1⟩,rfl,by simp⟩
   have eb:b0=a1:=by omega
   subst eb;rw [y1]at g2⊢;have x2:oI r2.2.1:=⟨by omega,by omega⟩;simp only [Ak,Ac,Af]at g2⊢;rw [show((1:Int)==0)=false from rfl,Ac,show((1:Int)==1)=true from rfl,Af,show ad 1 1=2 from ad1 (i:=1) (by omega)];simp only;obtain⟨r3,p3,q3,k1⟩:=Ii u r2.2.1 (by omega) x2;have g3:=Jv u r2.2.1 f p3;rw [AA,hB];unfold Ew;rw [Ad (by omega:(2:Int)<4),Af,q3,Aa]
   rcases k1 with⟨k1,_,_⟩|⟨k1,c0,a3,n3,k2,k3,k4,k5,k6,k7,k8⟩
   ·rw [k1]at g3⊢;exact⟨r2.2.1,r1.1,r2.1,0,0,true,⟨_,_,_,g1,g2,g3,Hd u _ f x2⟩,rfl,by simp⟩
   have ec:c0=a2:=by omega
   subst ec;rw [k1]at g3⊢;have x3:oI r3.2.1:=⟨by omega,by omega⟩;simp only [Ak,Ac,Af]at g3⊢;rw [show((2:Int)==0)=false from rfl,Ac,show((2:Int)==1)=false from rfl,Ac,show((2:Int)==2)=true from rfl,Af,show ad 2 1=3 from ad1 (i:=2) (by omega)];simp only;obtain⟨r4,p4,q4,l1⟩:=Ii u r3.2.1 (by omega) x3;have g4:=Jv u r3.2.1 f p4;rw [AA,hB];unfold Ew;rw [Ad (by omega:(3:Int)<4),Af,q4,Aa]
   rcases l1 with⟨l1,_,_⟩|⟨l1,d0,a4,n4,l2,l3,l4,l5,l6,l7,l8⟩
   ·rw [l1]at g4⊢;exact⟨r3.2.1,r1.1,r2.1,r3.1,0,true,⟨_,_,_,g1,g2,g3,g4⟩,rfl,by simp⟩
   have ed:d0=a3:=by omega
   subst ed;rw [l1]at g4⊢;simp only [Ak,Ac,Af]at g4⊢;rw [show((3:Int)==0)=false from rfl,Ac,show((3:Int)==1)=false from rfl,Ac,show((3:Int)==2)=false from rfl,Ac,show((3:Int)==3)=true from rfl,Af,show ad 3 1=4 from ad1 (i:=3) (by omega)];simp only;rw [AA,hB];unfold Ew;rw [Ae (by omega:¬(4:Int)<4),Ac];exact⟨r4.2.1,r1.1,r2.1,r3.1,r4.1,false,⟨_,_,_,g1,g2,g3,g4⟩,rfl,λ_=>⟨b0,c0,d0,a4,n1,n2,n3,n4,z2,y4,k4,l4,l3,z3,y5,k5,l5,l6,z5,y7,k7,l7,z6,y8,k8,l8⟩⟩
  obtain⟨a,m1,m2,m3,m4,bad,⟨c1,c2,c3,f1,f2,f3,f4⟩,f5,f6⟩:=four_ (λs:Int×Int×Int×Int×Int×Int=>Ew (u,true) s.1 s.2.1 s.2.2.1 s.2.2.2.1 s.2.2.2.2.1 s.2.2.2.2.2) (λ_ _ _ _ _ _=>rfl);rw [f5];simp only [f1,f2,f3,f4,Aa]
  cases bad with
  |true=>exact⟨Za,false,rfl,rfl,λ_=>rfl,by simp⟩
  |false=>
   obtain⟨a1,a2,a3,a4,n1,n2,n3,n4,rfl,rfl,rfl,rfl,rfl,i1,i2,i3,i4,i5,j1,j2,j3,j4,s1,s2,s3,s4⟩:=f6 rfl;simp only [Ac,Aa,BA];have r:sx u 0=some (((L u)[0]'(by omega)).toNat:Int):=EM u (i:=0) (by omega);have j:sub u (a4:Int) (Gi u)=some (u.extract a4 (L u).length):=by rw [BJ];exact Fi u (by omega) (by omega)
   rw [r,j];simp only [Aa];have hk:=dF ((L u)[0]'(by omega));have hw:IntKind.i64.wrap (((L u)[0]'(by omega)).toNat:Int)=((L u)[0]'(by omega)).toNat:=N2 (by omega) (by omega);rw [hw];obtain⟨po,po1,po2,_⟩:=Uu (Page.mk (((L u)[0]'(by omega)).toNat:Int) n1 n2 n3 n4 (u.extract a4 (L u).length));rw [po2];simp only [Aa]
   cases po with
   |false=>
    have:EY (Page.mk (((L u)[0]'(by omega)).toNat:Int) n1 n2 n3 n4 (u.extract a4 (L u).length))=some (bs [],false):=by
     unfold EY;rw [po1];rfl
    rw [this];exact⟨Za,false,rfl,rfl,λ_=>rfl,by simp⟩
   |true=>
    have hT:L (u.extract a4 (L u).length)=(L u).drop a4:=by
     rw [Ik];exact AP (by simp)
    have g:L u=[(L u)[0]'(by omega)]++Cv n1++Cv n2++Cv n3++Cv n4++L (u.extract a4 (L u).length):=by
     rw [hT,s1,s2,s3,s4];have h0:L u=[(L u)[0]'(by omega)]++(L u).drop 1:=by
      have:=Bj (l:=L u) (i:=0) (by omega);simpa using this
     have d1:=Pf (L u) (a:=1) (b:=a1) (by omega);have d2:=Pf (L u) (a:=a1) (b:=a2) (by omega);have d3:=Pf (L u) (a:=a2) (b:=a3) (by omega);have d4:=Pf (L u) (a:=a3) (b:=a4) (by omega);simp only [Ao];rw [<-d4,<-d3,<-d2,<-d1];exact h0
    rw [Vh _ u ((L u)[0]'(by omega)) n1 n2 n3 n4 po1 rfl rfl rfl rfl rfl j1 j2 j3 j4 f g];obtain⟨v',hv',hs'⟩:=(Uq u).2 f;rw [hv]at hv'
    injection hv' with hv'
    subst hv';rw [hs',Aa];have:seq (u++four v) t=true:=by rw [ID,A7];exact q.symm
    simp only [Ak,Ac,Aa,this];exact⟨_,true,rfl,rfl,by simp,λ_=>po1⟩
def nl (l:List Block):Nat:=(l.map λb=>b.Leaves.length).sum
def Qi (f:Flash) (y:A4):Prop:=∃b x,gi f.Blocks y.Block=some b/\gi b.Leaves y.Leaf=some x/\(x.Is==1)=true/\EX x.Text=some (y.Page,true)
theorem Vg {b:Block} {x:Leaf} (f:Flash) (hf:cK f) (hb:f.Blocks[i]?=some b) (hx:b.Leaves[k]?=some x):Ox f i k=some (bif x.Is==1 then(x.Text,true)else(bs [],false)):=by
 have h1:=(Ag.1 hb).1;have h2:=(Ag.1 hx).1;have h3:=hf.1;have h4:=hf.2 b (A6 hb);unfold Ox;rw [C5 (by rw [BW];omega) (by rw [BW];omega),Xa,BW,Ad (by omega:(0:Int)<=(i:Int)),Ad (by omega:(i:Int)<=(f.Blocks.length:Int)-1)];simp only [Aa,HF,Ak,Ac,AB,hb];rw [C5 (by rw [BW];omega) (by rw [BW];omega),Xa,BW,Ad (by omega:(0:Int)<=(k:Int)),Ad (by omega:(k:Int)<=(b.Leaves.length:Int)-1)];simp only [Aa,HF,Ak,Ac,hx]
 cases h:x.Is==1 with
 |true=>
  have:(x.Is !=1)=false:=by simp [bne,h]
  simp [this]
 |false=>
  have:(x.Is !=1)=true:=by simp [bne,h]
  simp [this]
theorem Sg (f:Flash) (hf:cK f) (hT:∀b∈f.Blocks,∀x∈b.Leaves,(L x.Text).length<=1048576) (hn:nl f.Blocks<=1048576):
  ∃X,Av (λs:List A4×Int=>Et f s.1 s.2) ([],0)=some X/\Av (λs:Int×List A4=>I6 f s.1 s.2) (0,[])=some X/\X.length<=nl f.Blocks/\∀y∈X,Qi f y:=by
 refine Ta (body:=λs:List A4×Int=>Et f s.1 s.2) (body':=λs:Int×List A4=>I6 f s.1 s.2) (λs i=>(s,i)) (λs i=>(i,s)) f.Blocks.length (λi a=>a.length<=((f.Blocks.take i).map λb=>b.Leaves.length).sum/\∀y∈a,Qi f y) (λX=>X.length<=nl f.Blocks/\∀y∈X,Qi f y) ?_ ?_ (s:=[]) ⟨by simp,by simp⟩
 ·intro a i hi ⟨c,d⟩;have hb:f.Blocks[i]?=some f.Blocks[i]:=Ab hi;have hm:f.Blocks[i]∈f.Blocks:=AC _;have j:=PE (λb:Block=>b.Leaves.length) f.Blocks i hi;have l:=MM (λb:Block=>b.Leaves.length) f.Blocks (i+1);unfold nl at hn;have m:=hf.1;refine .inl ?_;simp only [Et,I6,AG,Ad hi,Af,AB,hb,Aa];obtain⟨u,q1,q2,q3⟩:=Ta (body:=λs:List A4×Int=>EN f (i:Int) s.1 s.2) (body':=λs:Int×List A4=>JV (i:Int) f.Blocks[i] s.1 s.2) (λs i=>(s,i)) (λs i=>(i,s)) f.Blocks[i].Leaves.length (λk u=>u.length<=a.length+k/\∀y∈u,Qi f y) (λu=>u.length<=a.length+f.Blocks[i].Leaves.length/\∀y∈u,Qi f y)
   (λu k hk hu=>by
    have hx:f.Blocks[i].Leaves[k]?=some f.Blocks[i].Leaves[k]:=Ab hk;have g:f.Blocks[i].Leaves[k]∈f.Blocks[i].Leaves:=AC _;have n:=hf.2 _ hm
    have h:∀y:A4,ap 72 u [y]=some (u++ [y]):=λy=>Cq (by simp only [An];omega)
    refine .inl ?_;obtain⟨p,ok,r1,r2,r3,r4⟩:=J7 f.Blocks[i].Leaves[k].Text (by have:=hT _ hm _ g;omega);simp only [EN,JV,AG,Ad hk,Af,AB,hb,hx,Aa,Vg f hf hb hx,r2,h];have o:=hu.1
    cases e:f.Blocks[i].Leaves[k].Is==1 with
    |false=>
     obtain⟨p',ok',t1,_⟩:=J7 (bs []) (by rw [DP];simp);simp only [Ac,Aa,t1];refine⟨u,by rw [ad1 (by omega)],by cases ok<;>(simp only [Af,Ac,Aa];rw [ad1 (by omega)]),by omega,hu.2⟩
    |true=>
     simp only [Af,Aa,r1]
     cases ok with
     |false=>exact⟨u,by simp only [Ac];rw [ad1 (by omega)],by simp only [Ac,Aa];rw [ad1 (by omega)],by omega,hu.2⟩
     |true=>
      refine⟨u++ [A4.mk i k p],by simp only [Af];rw [ad1 (by omega)],by simp only [Af,Aa];rw [ad1 (by omega)],by simp only [Ah,An];omega,λy hy=>?_⟩
      rcases Ai.1 hy with hy|hy
      ·exact hu.2 y hy
      rw [Ay]at hy;subst hy
      exact⟨_,_,by simp only [AB];exact hb,by simp only [AB];exact hx,e,r1⟩)
   (λu hu=>⟨u,by simp only [EN,AB,hb,Aa,AG,Aq,Aw,Ac],by simp only [JV,AG,Aq,Aw,Ac],hu⟩) (s:=a) ⟨by omega,d⟩
  rw [q1,q2];simp only [Aa];rw [ad1 (by omega)];exact⟨u,rfl,rfl,by omega,q3.2⟩
 intro a ⟨c,d⟩;refine⟨a,by simp only [Et,AG,Aq,Aw,Ac],by simp only [I6,AG,Aq,Aw,Ac],?_,d⟩;rw [AL]at c;exact c
theorem cB {l:List γ} {i j:Int} {x y:γ} (h:gi l j=some y):∃z,gi (si l i x) j=some z:=by
 obtain⟨h1,h2⟩:=D6 h;have:=(Ag.1 h2).1;unfold gi;rw [Au h1];exact⟨_,Ab (by simp only [si,H0];exact this)⟩
theorem g6 (l:List A4) (k:Int):JJ l k=(Bp (ME BG) 0 k l).map (Sum.map (λs=>(s.2,s.1)) id):=by
 unfold JJ Bp pE gZ
 cases hk:decide (k>0)with
 |false=>rfl
 |true=>
  simp only [Af]
  cases h1:gi l (sb k 1)with
  |none=>cases h2:gi l k<;>simp
  |some x=>
   cases h2:gi l k with
   |none=>simp
   |some y=>
    simp only [Aa];have e:(decide (x.Page.Seq>y.Page.Seq))=ME BG y x:=rfl;rw [e]
    cases ME BG y x with
    |false=>rfl
    |true=>
     simp only [Af,h1,h2,Aa];obtain⟨z,hz⟩:=cB (i:=k) (x:=x) h1;rw [hz];rfl
theorem uL {l l':List γ} {i j:Int} (h:gZ l i j=some l'):l'.length=l.length:=by
 unfold gZ at h;obtain⟨x,_,h⟩:=Ar.1 h;obtain⟨y,_,h⟩:=Ar.1 h
 injection h with h
 subst h;simp [si]
theorem vY {a j:Int} {l r:List A4} (h:Av (λs:Int×List A4=>Bp (ME BG) a s.1 s.2) (j,l)=some r):r.length=l.length:=by
 refine n7 (λs:Int×List A4=>s.2.length=l.length) (λr=>r.length=l.length) ?_ ?_ (s:=(j,l)) rfl h
 ·rintro⟨j,m⟩ s' hm hb;simp only [Bp]at hb;obtain⟨c,_,hb⟩:=Ar.1 hb
  cases c with
  |false=>cases hb
  |true=>
   simp only [Af]at hb;obtain⟨m',h1,hb⟩:=Ar.1 hb
   injection hb with hb
   injection hb with hb
   subst hb;exact(uL h1).trans hm
 rintro⟨j,m⟩ b hm hb;simp only [Bp]at hb;obtain⟨c,_,hb⟩:=Ar.1 hb
 cases c with
 |false=>
  simp only [Ac]at hb
  injection hb with hb
  injection hb with hb
  subst hb;exact hm
 |true=>
  simp only [Af]at hb;obtain⟨m',h1,hb⟩:=Ar.1 hb;cases hb
theorem kJ (f:Flash) (hf:cK f) (hT:∀b∈f.Blocks,∀x∈b.Leaves,(L x.Text).length<=1048576) (hn:nl f.Blocks<=1048576):
  ∃r,Gx f=some r/\Hx f=some r/\r.length<=nl f.Blocks/\(∀y∈r,Qi f y)/\srt BG r:=by
 obtain⟨X,h1,h2,h3,h4⟩:=Sg f hf hT hn;obtain⟨r,h5,h6,h7⟩:=YC BG X (by omega);obtain⟨r',h8,h9,h10⟩:=Iz BG [] X [] (by simp only [Bm];omega);have hr:r'=r:=Om BG h9 h6 (λk=>by rw [h7 k,<-h10 k]);subst hr;refine⟨r',?_,?_,?_,?_,h6⟩
 ·unfold Gx;rw [h1,Aa];simp only [A5,A0,Bm,H6]at h8;unfold BQ at h8;rw [show ad ((0:Nat):Int) 1=1 from rfl]at h8;have hc:Av (λs:List A4×Int=>JK s.1 s.2) (X,1)=Av (λs:Int×List A4=>Bv (ME BG) ((0:Nat):Int) (X.length:Int) s.1 s.2) (1,X):=by
   refine e7 (body:=λs:Int×List A4=>Bv (ME BG) ((0:Nat):Int) (X.length:Int) s.1 s.2) (body':=λs:List A4×Int=>JK s.1 s.2) (λs=>(s.2,s.1)) (λs=>s.2.length=X.length) ?_ ?_ (1,X) rfl
   ·rintro⟨j,m⟩ hm;simp only at hm;simp only [JK,Bv,BW,hm]
    cases decide (j<(X.length:Int))with
    |false=>rfl
    |true=>
     simp only [Af];rw [jB (body:=λs:Int×List A4=>Bp (ME BG) ((0:Nat):Int) s.1 s.2) (body':=λs:List A4×Int=>JJ s.1 s.2) (λs=>(s.2,s.1)) (λs=>g6 s.2 s.1) (j,m)];cases Av (λs:Int×List A4=>Bp (ME BG) ((0:Nat):Int) s.1 s.2) (j,m)<;>rfl
   rintro⟨j,m⟩ s' hm hb;simp only [Bv]at hb
   cases hc:decide (j<(X.length:Int))with
   |false=>rw [hc,Ac]at hb;cases hb
   |true=>
    rw [hc,Af]at hb;obtain⟨m',h1,hb⟩:=Ar.1 hb
    injection hb with hb
    injection hb with hb
    subst hb;exact(vY h1).trans hm
  rw [hc];exact h8
 ·unfold Hx;rw [h2,Aa,h5];rfl
 ·rw [<-h7.len];exact h3
 exact λy hy=>h4 y ((h7.mem).1 hy)
theorem M3 {S:Type} {body:S->Option (S⊕List α)} (a:List α->Int->S) (g:Nat->α->α) (l0:List α) (h1:∀(i:Nat) (l:List α) x,l.length=l0.length->l[i]?=some x->l0[i]?=some x->body (a l (i:Nat))=some (.inl (a (l.set i (g i x)) ((i+1:Nat):Int)))) (h2:∀l:List α,l.length=l0.length->body (a l (l0.length:Nat))=some (.inr l)):Av body (a l0 0)=some (l0.mapIdx g):=by
 obtain⟨b,h3,h4⟩:=Bf (body:=body) a l0.length (λi l=>l.length=l0.length/\∀j,l[j]?=if j<i then(l0[j]?).map (g j)else l0[j]?) (λb=>b=l0.mapIdx g)
  (λl i hi hs=>by
   obtain⟨hl,hs⟩:=hs;have c:l0[i]?=some l0[i]:=Ab hi;have hx:l[i]?=some l0[i]:=by rw [hs,Ax (Aq _),c]
   refine .inl ⟨_,h1 i l _ hl hx c,by rw [H0,hl],λj=>?_⟩;rw [Ci];by_cases e:i=j
   ·subst e;rw [Au rfl,Au (by omega),Au (by omega),c];rfl
   rw [Ax e,hs];by_cases h:j<i
   ·rw [Au h,Au (by omega)]
   rw [Ax h,Ax (by omega)])
  (λl hs=>⟨l,h2 l hs.1,by
   apply C7;intro j;rw [hs.2,Ka];by_cases h:j<l0.length
   ·rw [Au h]
   rw [Ax h,D3 (by omega)]
   rfl⟩) (s:=l0) ⟨rfl,λj=>by rw [Ax (by omega)]⟩
 rw [h3,h4]
abbrev Ks:=List BI
def dk:BI:=BI.mk true []
def BD (K:Ks) (i:Int):BI:=(gi K i).getD dk
def JZ (k:BI) (j:Nat):Int:=(k.Kids[j]?).getD 0
def NK (K:Ks) (i:Nat) (leaf:Bool) (n:Int):Bool:=bif leaf then decide (0<=n)else(n== -1||(decide (0<=n/\n<=(i:Int)-1)&&(BD K n).Leaf))
def CU (K:Ks):Bool:=K.zipIdx.all λz=>z.1.Kids.length==4&&z.1.Kids.all (NK K z.2 z.1.Leaf)
def D8 (K:Ks) (r:Int):Bool:=r== -1||(decide (0<=r/\r<(K.length:Int))&&!(BD K r).Leaf)
def Pz (K:Ks) (root:Int) (s:Nat):Int:=if root<0 then 0 else if JZ (BD K root) (s/4)<0 then 0 else JZ (BD K (JZ (BD K root) (s/4))) (s %4)
def E9 (K:Ks) (root:Int):List Int:=(List.range 16).map (Pz K root)
variable {K X:Ks}
theorem Qg (h:i<K.length):BD K (i:Int)=K[i]:=by
 unfold BD;rw [AB,Ab h];rfl
theorem HB {i:Int} (h0:0<=i) (h:i<(K.length:Int)):gi K i=some (BD K i):=by
 unfold BD;rw [Qs h0 h];rfl
theorem Ez (x a b:Int):Cc x a b=some (decide (a<=x/\x<=b)):=by
 rw [Xa];congr 1;rw [Ee];simp
theorem Ih:CU K=true↔∀i:Nat,i<K.length->(BD K (i:Int)).Kids.length=4/\∀n∈(BD K (i:Int)).Kids,NK K i (BD K (i:Int)).Leaf n=true:=by
 unfold CU;rw [GH];constructor
 ·intro h i hi;have:=h (K[i],i) (by rw [List.mem_zipIdx_iff_getElem?];exact Ab hi);rw [Al,GH]at this;rw [Qg hi];exact⟨by simpa using this.1,this.2⟩
 intro h z hz;rw [List.mem_zipIdx_iff_getElem?]at hz;obtain⟨a,hz⟩:=Ag.1 hz;have:=h z.2 a;rw [Qg a,hz]at this;rw [Al,GH];exact⟨by simpa using this.1,this.2⟩
theorem JN (a:Arena) (ha:a.Knots.length<=1048576):G5 a=some (CU a.Knots):=by
 unfold G5;have h:=WW (body:=λs:Int=>DX a s) a.Knots (λi k=>k.Kids.length==4&&k.Kids.all (NK a.Knots i k.Leaf)) (.inr false) (.inl ()) (by omega)
  (λi k hk=>by
   have hi:=(Ag.1 hk).1;simp only [DX,AG,Ad hi,Af,AB,hk,Aa];by_cases h4:k.Kids.length=4
   ·have e1:(ln k.Kids !=4)=false:=by simp [ln,h4]
    have e2:(k.Kids.length==4)=true:=by simp [h4]
    simp only [e1,Ac,e2,CJ];have q:=WW (body:=λs:Int=>DW a (i:Int) k s) k.Kids (λ_ n=>NK a.Knots i k.Leaf n) (.inr (.inr (.inr false))) (.inl ()) (by omega)
     (λj n hn=>by
      have hj:=(Ag.1 hn).1;simp only [DW];rw [Ad (by omega:(j:Int)<4),Af,AB,hn];simp only [Aa,NK]
      cases hl:k.Leaf with
      |true=>
       simp only [Af,Ak,Ac];by_cases h0:n<0
       ·rw [Ad h0,Ae (by omega:¬0<=n)];rfl
       rw [Ae h0,Ad (by omega:0<=n)];simp only [Ac,Aa,Af];rw [ad1 (by omega)]
      |false=>
       simp only [Ac,AH,Af];by_cases h1:n= -1
       ·subst h1;simp only [bne_self_eq_false,Ac,Aa,BEq.rfl,Bool.true_or,Af];rw [ad1 (by omega)]
       have e3:(n != -1)=true:=by simp [h1]
       have e4:(n== -1)=false:=by simp [h1]
       rw [e3,e4];simp only [Af,T9];rw [C5 (by omega) (by omega),Ez];simp only [Aa];by_cases h2:0<=n/\n<=(i:Int)-1
       ·rw [Ad h2];simp only [Ak,Ac];rw [HB h2.1 (by omega)];simp only [Aa,CJ]
        cases(BD a.Knots n).Leaf with
        |true=>simp only [Ak,Ac,Af];rw [ad1 (by omega)]
        |false=>rfl
       rw [Ae h2];rfl)
     (by simp only [DW];rw [Ae (by omega:¬((k.Kids.length:Nat):Int)<4),Ac])
    rw [q];have hz:(k.Kids.zipIdx.all λz=>NK a.Knots i k.Leaf z.1)=k.Kids.all (NK a.Knots i k.Leaf):=by
     rw [show(λz:Int×Nat=>NK a.Knots i k.Leaf z.1)=(NK a.Knots i k.Leaf)∘Prod.fst from rfl,<-List.all_map];congr 1;simp
    simp only [Aa];rw [hz]
    cases k.Kids.all (NK a.Knots i k.Leaf)with
    |true=>simp only [Af,BA];rw [ad1 (by omega)]
    |false=>rfl
   have e1:(ln k.Kids !=4)=true:=by simp [ln];omega
   have e2:(k.Kids.length==4)=false:=by simp [h4]
   simp only [e1,Af,e2,Bool.false_and,Ac])
  (by simp only [DX,AG,Aq,Aw,Ac])
 rw [h];unfold CU;simp only [Aa];cases(a.Knots.zipIdx.all λz=>z.1.Kids.length==4&&z.1.Kids.all (NK a.Knots z.2 z.1.Leaf))<;>rfl
theorem LI (a:Arena) (ha:a.Knots.length<=1048576) (r:Int):Hm a r=some (D8 a.Knots r):=by
 unfold Hm D8
 cases hr:(r== -1)with
 |true=>rfl
 |false=>
  simp only [Ac,T9];rw [BW,C5 (by omega) (by omega),Ez];simp only [Aa];by_cases h:0<=r/\r<(a.Knots.length:Int)
  ·rw [Ad h,Ad (by omega:0<=r/\r<=(a.Knots.length:Int)-1)];simp only [Af,CJ];rw [HB h.1 h.2];rfl
  rw [Ae h,Ae (by omega:¬(0<=r/\r<=(a.Knots.length:Int)-1))];rfl
theorem Ck (h:D8 K r=true):r= -1\/(0<=r/\r<(K.length:Int)/\(BD K r).Leaf=false):=by
 unfold D8 at h;simp only [Cy,Dn,Al,A7,C8]at h
 rcases h with h|h
 ·exact .inl h
 exact .inr ⟨h.1.1,h.1.2,h.2⟩
theorem Fc (hK:CU K=true) (h0:0<=r) (h1:r<(K.length:Int)):(BD K r).Kids.length=4/\∀j,j<4->(BD K r).Kids[j]?=some (JZ (BD K r) j)/\NK K r.toNat (BD K r).Leaf (JZ (BD K r) j)=true:=by
 have:=Ih.1 hK r.toNat (by omega);rw [show((r.toNat:Nat):Int)=r by omega]at this;refine⟨this.1,λj hj=>?_⟩;have a:j<(BD K r).Kids.length:=by omega
 have e:(BD K r).Kids[j]?=some (JZ (BD K r) j):=by unfold JZ;rw [Ab a];rfl
 exact⟨e,this.2 _ (A6 e)⟩
theorem FO (hK:CU K=true) (h0:0<=r) (h1:r<(K.length:Int)) (hl:(BD K r).Leaf=false) (hj:j<4):JZ (BD K r) j= -1\/(0<=JZ (BD K r) j/\JZ (BD K r) j<r/\(BD K (JZ (BD K r) j)).Leaf=true):=by
 have:=((Fc hK h0 h1).2 j hj).2;rw [hl]at this;simp only [NK,Ac,Cy,Dn,Al,A7]at this
 rcases this with h|⟨⟨h2,h3⟩,h4⟩
 ·exact .inl h
 exact .inr ⟨h2,by omega,h4⟩
theorem rX (hK:CU K=true) (h0:0<=r) (h1:r<(K.length:Int)) (hl:(BD K r).Leaf=true) (hj:j<4):0<=JZ (BD K r) j:=by
 have:=((Fc hK h0 h1).2 j hj).2;rw [hl]at this;simpa [NK]using this
theorem yR {s:Nat} (h:s<16):qu (s:Int) 4=((s/4:Nat):Int):=by
 unfold qu;rw [show Int.tdiv (s:Int) 4=((s/4:Nat):Int) by rw [Int.tdiv_eq_ediv_of_nonneg (by omega)];omega];exact N2 (by omega) (by omega)
theorem pK {s:Nat}:Int.tmod (s:Int) 4=((s %4:Nat):Int):=by
 rw [Kc (by omega)];omega
theorem UC {s:Nat} (a:Arena) (hK:CU a.Knots=true) (hr:D8 a.Knots r=true) (hs:s<16):Mq a r (s:Int)=some (Pz a.Knots r s):=by
 unfold Mq Pz
 rcases Ck hr with rfl|⟨h0,h1,hl⟩
 ·rfl
 rw [Ae (by omega:¬r<0),Ax (by omega),Ac,HB h0 h1];simp only [Aa];rw [yR hs,AB,((Fc hK h0 h1).2 (s/4) (by omega)).1];simp only [Aa]
 rcases FO hK h0 h1 hl (show s/4<4 by omega)with e|⟨e1,e2,e3⟩
 ·rw [e];rfl
 rw [Ae (by omega),Ax (by omega),Ac,HB e1 (by omega)];simp only [Aa];rw [pK,AB,((Fc hK e1 (by omega)).2 (s %4) (by omega)).1];rfl
theorem W9 {s:Nat} (a:Arena) (ha:a.Knots.length<=1048576) (hK:CU a.Knots=true) (hr:D8 a.Knots r=true) (hs:s<16):O1 a r (s:Int)=some (Pz a.Knots r s):=by
 unfold O1;rw [JN a ha,LI a ha,Ez,hK,hr];simp only [Aa,Ak,Ac];rw [Ad (by omega:0<=(s:Int)/\(s:Int)<=15)];simp only [Ak,Ac];rw [UC a hK hr hs]
 try rfl
theorem Mw (a:Arena) (ha:a.Knots.length<=1048576) (hK:CU a.Knots=true) (hr:D8 a.Knots r=true):IV a r=some (E9 a.Knots r):=by
 unfold IV;obtain⟨b,h1,h2⟩:=Bf (body:=λs:List Int×Int=>Ha a r s.1 s.2) (λ(o:List Int) i=>(o,i)) 16 (λi o=>o=(List.range i).map (Pz a.Knots r)) (λb=>b=E9 a.Knots r)
  (λo i hi ho=>by
   refine .inl ⟨_,?_,rfl⟩;simp only [Ha];rw [Ad (by omega:(i:Int)<16),Af,W9 a ha hK hr hi];simp only [Aa];rw [Cq (by rw [ho];simp;omega)];simp only [Aa]
   rw [ad1 (by omega),ho,Ed,Cl,List.map_singleton])
  (λo ho=>⟨_,by simp only [Ha];rw [Ae (by omega:¬((16:Nat):Int)<16),Ac],ho⟩) (s:=[]) rfl
 have h1':Av (λs:List Int×Int=>Ha a r s.1 s.2) ([],0)=some b:=h1;rw [h1',h2];rfl
theorem K9 {by_:Nat} (h:l.length*by_<=140737488355328):ap by_ [] l=some l:=by
 rw [Cq (by simpa using h),A5]
def sV (K:Ks):Prop:=K.length<=1048576/\∀k∈K,k.Kids.length<=1048576
theorem KS (hK:CU K=true) (h:K.length<=1048576):sV K:=by
 refine⟨h,λk hk=>?_⟩;obtain⟨i,hi,rfl⟩:=AF hk;have:=(Ih.1 hK i hi).1;rw [Qg hi]at this;omega
theorem SE (a:Arena) (h:sV a.Knots):LY a=some a:=by
 unfold LY;have h1:=Tb (body:=λs:Int×List BI=>JD a s.1 s.2) a.Knots (λk=>k)
  (λi k b hk ho=>by
   have hi:=(Ag.1 hk).1;have hm:=h.2 k (A6 hk);have:=h.1;simp only [JD,AG,Ad hi,Af,AB,hk,Aa];rw [K9 (by omega)];simp only [Aa];rw [Cq (by simp;omega)];simp only [Aa]
   rw [ad1 (by omega)])
  (λb=>by simp only [JD,AG,Aq,Aw,Ac])
 rw [h1];simp only [Aa,List.map_id']
theorem FH (s:Store) (h:sV s.Arena.Knots) (hv:s.Vols.length<=1048576):DZ s=some s:=by
 unfold DZ;rw [K9 (by omega),SE _ h];rfl
def Nc (K:Ks) (r:Int) (s:Nat) (n:Int):List Int:=(if r<0 then [0,0,0,0]else if JZ (BD K r) (s/4)<0 then [0,0,0,0]else(BD K (JZ (BD K r) (s/4))).Kids).set (s %4) n
def Rp (K:Ks) (r:Int) (s:Nat):List Int:=(if r<0 then [-1,-1,-1,-1]else(BD K r).Kids).set (s/4) (K.length:Int)
def IM (K:Ks) (r:Int) (s:Nat) (n:Int):Ks:=K++ [BI.mk true (Nc K r s n),BI.mk false (Rp K r s)]
theorem mk4:mk 8 (0:Int) 4=some [0,0,0,0]:=by rw [show(4:Int)=((4:Nat):Int)from rfl,TW (by omega) (by omega)];rfl
theorem fK {k:BI} (h:j<k.Kids.length):gi k.Kids (j:Int)=some (JZ k j):=by
 unfold JZ;rw [AB,Ab h];rfl
theorem W5 {s:Nat} (a:Arena) (ha:a.Knots.length<=1048000) (hK:CU a.Knots=true) (hr:D8 a.Knots r=true) (hs:s<16) (hn:0<=n):
  VA a r (s:Int) n=some (Arena.mk (IM a.Knots r s n),(a.Knots.length:Int)+1):=by
 unfold VA;rw [SE _ (KS hK (by omega)),JN a (by omega),LI a (by omega),Ez,hK,hr];simp only [Aa,Ak,Ac];rw [Ad (by omega:0<=(s:Int)/\(s:Int)<=15),Ae (by omega:¬n<0)];simp only [Ak,Ac,Aa];rw [mk4];simp only [Aa];have fin:∀(lf tp:List Int),lf.length=4->tp.length=4->IM a.Knots r s n=a.Knots++ [BI.mk true (lf.set (s %4) n),BI.mk false (tp.set (s/4) (a.Knots.length:Int))]->
   ((gi lf (Int.tmod (s:Int) 4)).bind λx4=>(gi tp (qu (s:Int) 4)).bind λx5=>(ap 32 a.Knots [(BI.mk true (si lf (Int.tmod (s:Int) 4) n)),(BI.mk false (si tp (qu (s:Int) 4) (ln a.Knots)))]).bind λq4=>some ((Arena.mk q4),(sb (ln q4) 1)))=some (Arena.mk (IM a.Knots r s n),(a.Knots.length:Int)+1):=by
  intro lf tp h1 h2 h3;rw [yR hs,pK,AB,AB,Ab (by omega),Ab (by omega)];simp only [Aa];rw [Cq (by simp;omega),Ey,Ey,BW,<-h3];simp only [Aa];rw [BW,h3,Ah,C5 (by simp;omega) (by simp;omega)];simp only [Az,Bm];congr 2;omega
 rcases Ck hr with rfl|⟨h0,h1,hl⟩
 ·rw [Ae (by omega:¬(-1:Int)>=0)];simp only [Ac,Aa];exact fin _ _ rfl rfl rfl
 rw [Ad (by omega:r>=0),Af,HB h0 h1];have h4:=(Fc hK h0 h1).1;simp only [Aa];rw [K9 (by omega)];simp only [Aa];rw [yR hs,fK (by omega:s/4<(BD a.Knots r).Kids.length)];simp only [Aa];rw [<-yR hs]
 rcases FO hK h0 h1 hl (show s/4<4 by omega)with e|⟨e1,e2,e3⟩
 ·rw [Ae (by omega:¬JZ (BD a.Knots r) (s/4)>=0)];simp only [Ac,Aa];exact fin _ _ rfl h4 (by unfold IM Nc Rp;simp only [Ax (show¬r<0 by omega),Au (show JZ (BD a.Knots r) (s/4)<0 by omega)])
 rw [Ad (by omega:JZ (BD a.Knots r) (s/4)>=0),Af,HB e1 (by omega)];have h5:=(Fc hK e1 (by omega)).1;simp only [Aa];rw [K9 (by omega)];simp only [Aa];exact fin _ _ h5 h4 (by unfold IM Nc Rp;simp only [Ax (show¬r<0 by omega),Ax (show¬JZ (BD a.Knots r) (s/4)<0 by omega)])
def M9 (K:Ks) (r:Int) (i:Nat):Bool:=decide (0<=r)&&(decide (r=(i:Int))||(BD K r).Kids.any λn=>decide (n=(i:Int)))
theorem bJ (n:Nat) (f:Nat->α) (g:Nat->α->α):((List.range n).map f).mapIdx g=(List.range n).map λi=>g i (f i):=by
 apply C7;intro j;rw [Ka,AN,AN];by_cases h:j<n
 ·rw [P9 h];rfl
 rw [D3 (by simpa using h)];rfl
theorem ND (n:Nat) (f:Nat->α) (i:Nat) (x:α) (g:Nat->α) (h:∀j,j<n->g j=if j=i then x else f j):((List.range n).map f).set i x=(List.range n).map g:=by
 apply C7;intro j;rw [Ci,AN,AN];by_cases hj:j<n
 ·rw [P9 hj];simp only [B5,h j hj,Be,Ch];by_cases e:i=j
  ·rw [Au e,Au (by omega),Au e.symm]
  rw [Ax e,Ax (EL e)]
 rw [D3 (by simpa using hj)];simp only [Option.map_none,Be,Ch];split
 ·rw [Ax (by omega)]
 rfl
theorem Hv {n:Nat} {f:Nat->α} (h:i<n):((List.range n).map f)[i]?=some (f i):=by
 rw [AN,P9 h];rfl
theorem S3 {l:List Int} {m:Nat} (h:l[m]?=some x) (p:Int->Bool):(l.take (m+1)).any p=((l.take m).any p||p x):=by
 rw [DR,h,List.any_append];simp
theorem dU (a:Arena) (ha:a.Knots.length<=1048576) (hK:CU a.Knots=true) (hr:D8 a.Knots r=true):SD a r=some ((List.range a.Knots.length).map (M9 a.Knots r)):=by
 unfold SD;rw [BW,TW (by omega) (by omega)];simp only [Aa]
 rcases Ck hr with rfl|⟨h0,h1,hl⟩
 ·simp only [show decide ((-1:Int)<0)=true from rfl,Af];congr 1;rw [show(M9 a.Knots (-1))=λ_=>false from rfl,Je,Ch]
 rw [Ae (by omega:¬r<0),Ac];obtain⟨m,rfl⟩:∃m:Nat,r=(m:Int):=⟨r.toNat,by omega⟩;rw [AB,List.getElem?_replicate,Au (by omega)];simp only [Aa];rw [Ey];obtain⟨h4,hk⟩:=Fc hK h0 h1;obtain⟨b,q1,q2⟩:=Bf (body:=λs:List Bool×Int=>Jk a (m:Int) s.1 s.2) (λ(o:List Bool) i=>(o,i)) 4
  (λi o=>o=(List.range a.Knots.length).map λ(j:Nat)=>decide ((m:Int)=(j:Int))||((BD a.Knots (m:Int)).Kids.take i).any λn=>decide (n=(j:Int)))
  (λb=>b=(List.range a.Knots.length).map (M9 a.Knots (m:Int)))
  (λo i hi ho=>by
   obtain⟨e,_⟩:=hk i hi;simp only [Jk];rw [Ad (by omega:(i:Int)<4),Af,HB h0 h1];simp only [Aa];rw [AB,e];simp only [Aa]
   rcases FO hK h0 h1 hl hi with e1|⟨e1,e2,e3⟩
   ·rw [e1,Ae (by omega:¬(-1:Int)>=0),Ac,ad1 (by omega)];refine .inl ⟨o,rfl,?_⟩;rw [ho];apply CI;intro j hj;rw [S3 e,e1,Ae (by omega:¬(-1:Int)=(j:Int)),Oe]
   obtain⟨c,hc⟩:∃c:Nat,JZ (BD a.Knots (m:Int)) i=(c:Int):=⟨(JZ (BD a.Knots (m:Int)) i).toNat,by omega⟩;rw [hc,Ad (by omega:(c:Int)>=0),Af]
   try simp only [Aa]
   rw [ho,AB,Hv (by omega)];simp only [Aa];rw [Ey,ad1 (by omega)];refine .inl ⟨_,rfl,?_⟩;apply ND;intro j hj;rw [S3 e,hc];by_cases d:j=c
   ·subst d;simp
   rw [Ax d,Ae (by omega:¬(c:Int)=(j:Int)),Oe])
  (λo ho=>⟨_,by simp only [Jk];rw [Ae (by omega:¬((4:Nat):Int)<4),Ac],by
   rw [ho];apply CI;intro j hj;rw [AP (by omega)];unfold M9
   rw [Ad h0,CJ]⟩) (s:=(List.replicate a.Knots.length false).set m true) (by
   rw [<-Ch (n:=a.Knots.length),<-Je,Ch];apply ND;intro j hj;simp only [GO,List.any_nil,Oe];by_cases e:j=m
   ·subst e;simp
   rw [Ax e,Ae (by omega)])
 have q1':Av (λs:List Bool×Int=>Jk a (m:Int) s.1 s.2) ((List.replicate a.Knots.length false).set m true,0)=some b:=q1;rw [q1',q2];rfl
def C1 (K:Ks) (R:List Int) (i:Nat):Bool:=R.any λr=>M9 K r i
def Yb (K:Ks) (R:List Int) (i:Nat):Nat:=((List.range i).filter (C1 K R)).length
def Mc (K:Ks) (R:List Int) (n:Int):Int:=if 0<=n then(Yb K R n.toNat:Int)else n
def V5 (K:Ks) (R:List Int) (i:Nat):BI:=BI.mk (BD K (i:Int)).Leaf (bif(BD K (i:Int)).Leaf then(BD K (i:Int)).Kids else(BD K (i:Int)).Kids.map (Mc K R))
def Rq (K:Ks) (R:List Int):Ks:=((List.range K.length).filter (C1 K R)).map (V5 K R)
theorem Ix (l:List α) (f:α->α):l.mapIdx (λ_ x=>f x)=l.map f:=by
 apply C7;intro j;rw [Ka,AN]
theorem N3 (hr:r∈R) (h0:0<=r):C1 K R r.toNat=true:=by
 unfold C1;rw [CQ];exact⟨r,hr,by unfold M9;rw [Ad h0,Ad (by omega:r=(r.toNat:Int))];rfl⟩
theorem Wf (hK:CU K=true) (hR:∀r∈R,D8 K r=true) (hu:C1 K R i=true) (hl:(BD K (i:Int)).Leaf=false):(i:Int)∈R:=by
 unfold C1 at hu;rw [CQ]at hu;obtain⟨r,hr,h⟩:=hu;unfold M9 at h;simp only [Al,Cy,A7,CQ]at h;obtain⟨h0,h⟩:=h
 rcases h with h|⟨n,hn,h⟩
 ·rw [<-h];exact hr
 rcases Ck (hR r hr)with e|⟨_,h1,a⟩
 ·omega
 obtain⟨h4,hk⟩:=Fc hK h0 h1;obtain⟨j,hj,b⟩:=AF hn;have e:=(hk j (by omega)).1;rw [Ab hj,b]at e
 injection e with e
 rcases FO hK h0 h1 a (show j<4 by omega)with k1|⟨_,_,k3⟩
 ·omega
 rw [<-e,h,hl]at k3;cases k3
theorem Sy (hr:r∈R) (h0:0<=r) (hn:n∈(BD K r).Kids) (h1:0<=n):C1 K R n.toNat=true:=by
 unfold C1;rw [CQ];refine⟨r,hr,?_⟩;unfold M9;rw [Ad h0,CJ,Cy,CQ];exact .inr ⟨n,hn,by rw [A7];omega⟩
theorem xH (i:Nat):Yb K R i<=i:=by
 have:=CF (C1 K R) (List.range i);rw [Ch]at this;exact this
theorem XQ (a:Arena) (ha:a.Knots.length<=1048576) (R:List Int) (hc:R.length<=1048576) (hR:∀r∈R,D8 a.Knots r=true):Av (λs:Bool×Int=>Fx a R s.1 s.2) (true,0)=some true:=by
 obtain⟨b,h1,h2⟩:=Bf (body:=λs:Bool×Int=>Fx a R s.1 s.2) (λ(o:Bool) i=>(o,i)) R.length (λ_ o=>o=true) (λb=>b=true)
  (λo i hi ho=>by
   have hx:=Ab hi;simp only [Fx,AG,Ad hi,Af,Aa,ho,AB,hx];rw [LI a ha,hR _ (AC hi)];simp only [Aa];rw [ad1 (by omega)]
   exact .inl ⟨true,rfl,rfl⟩)
  (λo ho=>⟨o,by simp only [Fx,AG,Aq,Aw,Ac,Aa],ho⟩) (s:=true) rfl
 rw [h2]at h1;exact h1
theorem aC (a:Arena) (ha:a.Knots.length<=1048576) (hK:CU a.Knots=true) (R:List Int) (hc:R.length<=1048576) (hR:∀r∈R,D8 a.Knots r=true):
  Av (λs:List Bool×Int=>Fw a R s.1 s.2) (List.replicate a.Knots.length false,0)=some ((List.range a.Knots.length).map (C1 a.Knots R)):=by
 obtain⟨b,h1,h2⟩:=Bf (body:=λs:List Bool×Int=>Fw a R s.1 s.2) (λ(o:List Bool) i=>(o,i)) R.length (λi o=>o=(List.range a.Knots.length).map λ(j:Nat)=>(R.take i).any λr=>M9 a.Knots r j) (λb=>b=(List.range a.Knots.length).map (C1 a.Knots R))
  (λo i hi ho=>by
   have hx:=Ab hi;simp only [Fw,AG,Ad hi,Af,Aa,AB,hx];rw [dU a ha hK (hR _ (AC hi))];simp only [Aa];have d:o.length=a.Knots.length:=by rw [ho];simp
   have q:=M3 (body:=λs:List Bool×Int=>Hg ((List.range a.Knots.length).map (M9 a.Knots R[i])) s.1 s.2) (λl i=>(l,i)) (λk x=>x||M9 a.Knots R[i] k) o
    (λk l x hl c e=>by
     have hk:k<a.Knots.length:=by have:=(Ag.1 c).1;omega
     simp only [Hg,AG];rw [Ad (by simpa using hk),Af,AB,c];simp only [Aa]
     cases x with
     |true=>simp only [Af,Bool.true_or];rw [Ey,ad1 (by omega)]
     |false=>
      simp only [Ac,T9];rw [AB,Hv hk];simp only [Aa]
      rw [Ey,ad1 (by omega)])
    (λl hl=>by simp only [Hg,AG];rw [d,Ae (by simp),Ac])
   rw [q];simp only [Aa];rw [ad1 (by omega),ho,bJ];refine .inl ⟨_,rfl,?_⟩;apply CI;intro j hj;rw [DR,hx,List.any_append]
   simp)
  (λo ho=>⟨o,by simp only [Fw,AG,Aq,Aw,Ac],by rw [ho,AP (by omega)];rfl⟩) (s:=List.replicate a.Knots.length false) (by
   simp only [GO,List.any_nil]
   rw [Je,Ch])
 rw [<-h2];exact h1
def QP (K:Ks) (R:List Int) (i:Nat):List Int:=(List.range K.length).map λ(j:Nat)=>if j<i/\C1 K R j=true then(Yb K R j:Int)else 0
theorem XR (a:Arena) (ha:a.Knots.length<=1048576) (hK:CU a.Knots=true) (R:List Int) (hR:∀r∈R,D8 a.Knots r=true):
  Av (λs:List Int×Int×List BI=>Fv a ((List.range a.Knots.length).map (C1 a.Knots R)) s.1 s.2.1 s.2.2) (List.replicate a.Knots.length 0,0,[])=some (QP a.Knots R a.Knots.length,Rq a.Knots R):=by
 obtain⟨b,h1,h2⟩:=Bf (body:=λs:List Int×Int×List BI=>Fv a ((List.range a.Knots.length).map (C1 a.Knots R)) s.1 s.2.1 s.2.2) (λ(o:List Int×List BI) i=>(o.1,i,o.2)) a.Knots.length
  (λi o=>o=(QP a.Knots R i,((List.range i).filter (C1 a.Knots R)).map (V5 a.Knots R))) (λb=>b=(QP a.Knots R a.Knots.length,Rq a.Knots R))
  (λo i hi ho=>by
   subst ho;simp only [Fv,AG,Ad hi,Af];rw [AB,Hv hi];simp only [Aa]
   cases hu:C1 a.Knots R i with
   |false=>
    simp only [AH,Af];rw [ad1 (by omega)];refine .inl ⟨(QP a.Knots R i,((List.range i).filter (C1 a.Knots R)).map (V5 a.Knots R)),rfl,?_⟩;congr 1
    ·unfold QP;apply CI;intro j hj;by_cases e:j=i
     ·subst e;rw [Ax (by omega),Ax (by rw [hu];simp)]
     by_cases h:j<i/\C1 a.Knots R j=true
     ·rw [Au h,Au ⟨by omega,h.2⟩]
     rw [Ax h,Ax (λh3=>h ⟨by omega,h3.2⟩)]
    rw [Ed,AQ,BN (by rw [hu];simp)];simp
   |true=>
    simp only [Ak,Ac];have h0:(0:Int)<=(i:Int):=by omega
    have d:(i:Int)<(a.Knots.length:Int):=by omega
    rw [HB h0 d];obtain⟨h4,hk⟩:=Fc hK h0 d;simp only [Aa];rw [K9 (by omega)];simp only [Aa];have inner:Av (λs:Int×List Int=>Fu (QP a.Knots R i) ((BD a.Knots (i:Int)).Leaf,(BD a.Knots (i:Int)).Kids) s.1 s.2) (0,(BD a.Knots (i:Int)).Kids)=some (V5 a.Knots R i).Kids:=by
     unfold V5
     cases hl:(BD a.Knots (i:Int)).Leaf with
     |true=>rw [AA];rfl
     |false=>
      have q:=M3 (body:=λs:Int×List Int=>Fu (QP a.Knots R i) (false,(BD a.Knots (i:Int)).Kids) s.1 s.2) (λl k=>(k,l)) (λ_ x=>Mc a.Knots R x) (BD a.Knots (i:Int)).Kids
       (λk l x t f g=>by
        have m:k<4:=by have:=(Ag.1 g).1;omega
        have ex:x=JZ (BD a.Knots (i:Int)) k:=by have:=(hk k m).1;rw [g]at this;injection this
        simp only [Fu];rw [Ad (by omega:(k:Int)<4)];simp only [Af,Aa,AH];rw [AB,f];simp only [Aa]
        rcases FO hK h0 d hl m with e|⟨e1,e2,e3⟩
        ·rw [Ae (by omega:¬x>=0),Ac,ad1 (by omega)];have:Mc a.Knots R x=x:=by unfold Mc;rw [Ax (by omega)]
         rw [this,show l.set k x=l from by
          apply C7;intro j;rw [Ci];split
          ·rename_i e5;subst e5;rw [Au (Ag.1 f).1,f]
          rfl]
        rw [Ad (by omega:x>=0),Af];obtain⟨c,hc⟩:∃c:Nat,x=(c:Int):=⟨x.toNat,by omega⟩;have u:x∈(BD a.Knots (i:Int)).Kids:=A6 g;have n:=Sy (Wf hK hR hu hl) h0 u (by omega);rw [hc]at n;rw [hc,AB];unfold QP;rw [Hv (by omega)];simp only [Aa];rw [Au ⟨by omega,n⟩,Ey,ad1 (by omega)];unfold Mc;rw [Au (by omega)]
        rfl)
       (λl t=>by
        simp only [Fu];rw [h4,Ae (by omega:¬((4:Nat):Int)<4)]
        rfl)
      rw [Ix]at q;exact q
    rw [inner];simp only [Aa];have v:gi (QP a.Knots R i) (i:Int)=some 0:=by
     unfold QP;rw [AB,Hv hi,Ax (by omega)]
    rw [v];simp only [Aa];have w:=xH (K:=a.Knots) (R:=R) i;have p:(((List.range i).filter (C1 a.Knots R)).map (V5 a.Knots R)).length=Yb a.Knots R i:=by rw [Be];rfl
    rw [Cq (by rw [p];simp;omega)];simp only [Aa];rw [ad1 (by omega),BW,p,Ey];refine .inl ⟨(_,_),rfl,?_⟩;congr 1
    ·unfold QP;apply ND;intro j hj;by_cases e:j=i
     ·subst e;rw [Au ⟨by omega,hu⟩,Au rfl]
     rw [Ax e];by_cases h:j<i/\C1 a.Knots R j=true
     ·rw [Au h,Au ⟨by omega,h.2⟩]
     rw [Ax h,Ax (λh3=>h ⟨by omega,h3.2⟩)]
    rw [Ed,AQ,BM hu,FW,Cl]
    rfl)
  (λo ho=>⟨o,by simp only [Fv,AG,Aq,Aw,Ac],ho⟩) (s:=(List.replicate a.Knots.length 0,[])) (by
   unfold QP;simp only [Nat.not_lt_zero,false_and,Ga];rw [Je,Ch]
   rfl)
 rw [<-h2];exact h1
theorem iI (a:Arena) (ha:a.Knots.length<=1048576) (R:List Int) (hc:R.length<=1048576) (hR:∀r∈R,D8 a.Knots r=true):
  Av (λs:List Int×Int=>Ft (QP a.Knots R a.Knots.length,Rq a.Knots R) s.1 s.2) (R,0)=some (R.map (Mc a.Knots R)):=by
 have q:=M3 (body:=λs:List Int×Int=>Ft (QP a.Knots R a.Knots.length,Rq a.Knots R) s.1 s.2) (λl k=>(l,k)) (λ_ x=>Mc a.Knots R x) R
  (λk l x f b d=>by
   have hk:=(Ag.1 d).1;have g:=(Ag.1 b).1;simp only [Ft,AG,Ad g,Af,AB,b,Aa]
   rcases Ck (hR x (A6 d))with e|⟨e1,e2,e3⟩
   ·rw [Ae (by omega:¬x>=0),Ac,ad1 (by omega)];have:Mc a.Knots R x=x:=by unfold Mc;rw [Ax (by omega)]
    rw [this,show l.set k x=l from by
     apply C7;intro j;rw [Ci];split
     ·rename_i e5;subst e5
      first
       |rw [Au g,b]
       |exact b.symm
     rfl]
   rw [Ad (by omega:x>=0),Af];obtain⟨c,h⟩:∃c:Nat,x=(c:Int):=⟨x.toNat,by omega⟩;have i:=N3 (K:=a.Knots) (A6 d) e1;rw [h]at i;rw [h,AB];unfold QP;rw [Hv (by omega)];simp only [Aa];rw [Au ⟨by omega,i⟩,Ey,ad1 (by omega)];unfold Mc;rw [Au (by omega)]
   rfl)
  (λl f=>by simp only [Ft,BW,f];rw [Ae (by omega),Ac])
 rw [Ix]at q;exact q
theorem W3 (a:Arena) (ha:a.Knots.length<=1048576) (hK:CU a.Knots=true) (R:List Int) (hc:R.length<=1048576) (hR:∀r∈R,D8 a.Knots r=true):
  JG a R=some (Arena.mk (Rq a.Knots R),R.map (Mc a.Knots R)):=by
 unfold JG;rw [K9 (by omega),JN a ha,hK];simp only [Aa];rw [XQ a ha R hc hR];simp only [Aa,Ak,Ac];rw [BW,TW (by omega) (by omega)];simp only [Aa];rw [aC a ha hK R hc hR];simp only [Aa];rw [TW (by omega) (by omega)];simp only [Aa];rw [XR a ha hK R hR];simp only [Aa];rw [iI a ha R hc hR];rfl
theorem Xn (p:Nat->Bool) (hp:p i=true):∀{n:Nat},i<n->((List.range n).filter p)[((List.range i).filter p).length]?=some i
 |0,h=>by omega
 |n+1,h=>by
  rw [Ed,AQ];by_cases e:i=n
  ·subst e;rw [AS (A3 _),Q7,BM hp];rfl
  have h2:=Xn p hp (show i<n by omega);have h3:=(Ag.1 h2).1;rw [AO h3,h2]
theorem fP {n:Nat} (p:Nat->Bool) (hp:p i=true) (h:i<n):((List.range i).filter p).length<((List.range n).filter p).length:=(Ag.1 (Xn p hp h)).1
theorem fO (p:Nat->Bool):∀{n j:Nat},j<((List.range n).filter p).length->∃i,i<n/\p i=true/\((List.range i).filter p).length=j
 |0,j,h=>by simp at h
 |n+1,j,h=>by
  rw [Ed,AQ,Ah]at h;by_cases e:j<((List.range n).filter p).length
  ·obtain⟨i,h1,h2,h3⟩:=fO p e;exact⟨i,by omega,h2,h3⟩
  by_cases hp:p n=true
  ·rw [BM hp]at h;simp at h;exact⟨n,by omega,hp,by omega⟩
  rw [BN hp]at h;simp at h;omega
theorem ZN:(Rq K R).length=Yb K R K.length:=by unfold Rq Yb;rw [Be]
theorem QA (hu:C1 K R i=true) (hi:i<K.length):BD (Rq K R) (Yb K R i:Nat)=V5 K R i/\Yb K R i<(Rq K R).length:=by
 have h:=fP (C1 K R) hu hi;have h2:Yb K R i<(Rq K R).length:=by rw [ZN];exact h
 refine⟨?_,h2⟩;unfold BD;rw [AB];unfold Rq;rw [AN];have:=Xn (C1 K R) hu hi;rw [show Yb K R i=((List.range i).filter (C1 K R)).length from rfl,this];rfl
theorem pN (hj:j<(Rq K R).length):∃i,i<K.length/\C1 K R i=true/\Yb K R i=j:=by
 rw [ZN]at hj;exact fO (C1 K R) hj
theorem AAo (hu:C1 K R i=true) (h:i<j):Yb K R i<Yb K R j:=fP _ hu h
theorem Wn (i:Nat):(V5 K R i).Leaf=(BD K (i:Int)).Leaf:=rfl
theorem lC (hK:CU K=true) (hi:i<K.length):(V5 K R i).Kids.length=4:=by
 have:=(Ih.1 hK i hi).1;unfold V5
 cases(BD K (i:Int)).Leaf with
 |true=>exact this
 |false=>simp only [Ac,Be];exact this
theorem lD (hl:(BD K (i:Int)).Leaf=false) (hj:j<(BD K (i:Int)).Kids.length):JZ (V5 K R i) j=Mc K R (JZ (BD K (i:Int)) j):=by
 unfold JZ V5;rw [hl];simp only [Ac];rw [AN,Ab hj];rfl
theorem Rz (hl:(BD K (i:Int)).Leaf=true):(V5 K R i).Kids=(BD K (i:Int)).Kids:=by
 unfold V5;rw [hl];rfl
theorem QN (h:n<0):Mc K R n=n:=by unfold Mc;rw [Ax (by omega)]
theorem QO (n:Nat):Mc K R (n:Int)=(Yb K R n:Int):=by unfold Mc;rw [Au (by omega)];rfl
theorem yJ (hK:CU K=true) (hR:∀r∈R,D8 K r=true):CU (Rq K R)=true:=by
 rw [Ih];intro j hj;obtain⟨i,hi,hu,rfl⟩:=pN hj;rw [(QA hu hi).1];refine⟨lC hK hi,λn hn=>?_⟩;have h0:(0:Int)<=(i:Int):=by omega
 have h1:(i:Int)<(K.length:Int):=by omega
 obtain⟨h4,hk⟩:=Fc hK h0 h1;rw [Wn]
 cases hl:(BD K (i:Int)).Leaf with
 |true=>
  rw [Rz hl]at hn;have:=(Ih.1 hK i hi).2 n hn;rw [hl]at this;simpa [NK]using this
 |false=>
  obtain⟨m,hm,b⟩:=AF hn;rw [lC hK hi]at hm;have e:n=Mc K R (JZ (BD K (i:Int)) m):=by
   rw [<-lD hl (by omega),<-b];unfold JZ;rw [Ab];rfl
  rcases FO hK h0 h1 hl hm with k1|⟨k1,k2,k3⟩
  ·rw [k1,QN (by omega)]at e;subst e;rfl
  obtain⟨c,hc⟩:∃c:Nat,JZ (BD K (i:Int)) m=(c:Int):=⟨_,(Bq k1).symm⟩;rw [hc]at e k2 k3;rw [QO]at e;have a:=Sy (Wf hK hR hu hl) h0 (A6 (hk m hm).1) (by omega);rw [hc]at a;have d:c<K.length:=by omega
  have f:Yb K R c<Yb K R i:=AAo (by simpa using a) (by omega);subst e;simp only [NK,Ac,Cy,Dn,Al,A7];refine .inr ⟨by omega,?_⟩;rw [(QA (by simpa using a) d).1,Wn];exact k3
theorem qJ (hR:∀r∈R,D8 K r=true) (hr:r∈R):D8 (Rq K R) (Mc K R r)=true:=by
 rcases Ck (hR r hr)with e|⟨h0,h1,hl⟩
 ·rw [e,QN (by omega)];rfl
 obtain⟨c,rfl⟩:∃c:Nat,r=(c:Int):=⟨_,(Bq h0).symm⟩;have a:=N3 (K:=K) hr h0;rw [Ba]at a;obtain⟨g1,g2⟩:=QA a (by omega);rw [QO];unfold D8;rw [Ad (by omega),g1,Wn,hl];simp
theorem lN (hK:CU K=true) (hR:∀r∈R,D8 K r=true) (hr:r∈R):E9 (Rq K R) (Mc K R r)=E9 K r:=by
 unfold E9;apply CI;intro s hs;rw [I9]at hs;unfold Pz
 rcases Ck (hR r hr)with e|⟨h0,h1,hl⟩
 ·rw [e,QN (by omega),Au (by omega),Au (by omega)]
 obtain⟨c,rfl⟩:∃c:Nat,r=(c:Int):=⟨_,(Bq h0).symm⟩;have a:=N3 (K:=K) hr h0;rw [Ba]at a;obtain⟨g1,g2⟩:=QA a (by omega);obtain⟨h4,hk⟩:=Fc hK h0 h1;rw [QO,g1,lD hl (by omega)];simp only [Ax (show¬((Yb K R c:Nat):Int)<0 by omega),Ax (show¬((c:Nat):Int)<0 by omega)]
 rcases FO hK h0 h1 hl (show s/4<4 by omega)with k1|⟨k1,k2,k3⟩
 ·rw [k1,QN (by omega)];rfl
 obtain⟨d,hd⟩:∃d:Nat,JZ (BD K (c:Int)) (s/4)=(d:Int):=⟨_,(Bq k1).symm⟩;have b:=Sy hr h0 (A6 (hk (s/4) (by omega)).1) k1;rw [hd]at b k2 k3;rw [hd,QO];simp only [Ax (show¬((Yb K R d:Nat):Int)<0 by omega),Ax (show¬((d:Nat):Int)<0 by omega)];rw [(QA (by simpa using b) (by omega)).1];unfold JZ;rw [Rz k3]
theorem uM (hK:CU K=true) (hR:∀r∈R,D8 K r=true) (hj:j<(Rq K R).length):C1 (Rq K R) (R.map (Mc K R)) j=true:=by
 obtain⟨i,hi,hu,rfl⟩:=pN hj;have hu':=hu;unfold C1 at hu';rw [CQ]at hu';obtain⟨r,hr,h⟩:=hu';unfold M9 at h;simp only [Al,Cy,A7,CQ]at h;obtain⟨h0,h⟩:=h;unfold C1;rw [CQ];refine⟨Mc K R r,AJ.2 ⟨r,hr,rfl⟩,?_⟩;obtain⟨c,rfl⟩:∃c:Nat,r=(c:Int):=⟨_,(Bq h0).symm⟩;rw [QO];unfold M9;simp only [Al,Cy,A7,CQ];refine⟨by omega,?_⟩
 rcases h with h|⟨n,hn,h⟩
 ·have:c=i:=by omega
  subst this;exact .inl rfl
 right
 rcases Ck (hR _ hr)with e|⟨_,h1,hl⟩
 ·omega
 have a:=N3 (K:=K) hr h0;rw [Ba]at a;rw [(QA a (by omega)).1];refine⟨(Yb K R i:Int),?_,rfl⟩;unfold V5;rw [hl];simp only [Ac,AJ];exact⟨n,hn,by rw [h,QO]⟩
theorem M4 {i:Int} (h0:0<=i) (h:i<(K.length:Int)):BD (K++X) i=BD K i:=by
 obtain⟨c,rfl⟩:∃c:Nat,i=(c:Int):=⟨_,(Bq h0).symm⟩;unfold BD;rw [AB,AB,AO (by omega)]
theorem qF (h:D8 K r=true):D8 (K++X) r=true:=by
 rcases Ck h with e|⟨h0,h1,hl⟩
 ·rw [e];rfl
 unfold D8;rw [M4 h0 h1,hl,Ad (by rw [Ah];omega)];simp
theorem lJ (hK:CU K=true) (h:D8 K r=true):E9 (K++X) r=E9 K r:=by
 unfold E9;apply CI;intro s hs;rw [I9]at hs;unfold Pz
 rcases Ck h with e|⟨h0,h1,hl⟩
 ·rw [e];rfl
 rw [M4 h0 h1];simp only [Ax (show¬r<0 by omega)]
 rcases FO hK h0 h1 hl (show s/4<4 by omega)with k1|⟨k1,k2,k3⟩
 ·rw [k1];rfl
 rw [M4 k1 (by omega)]
theorem Zn {s:Nat} (hK:CU K=true) (hr:D8 K r=true) (hs:s<16) (n:Int):(Nc K r s n).length=4:=by
 unfold Nc;rw [H0]
 rcases Ck hr with e|⟨h0,h1,hl⟩
 ·rw [Au (by omega)];rfl
 rw [Ax (by omega)]
 rcases FO hK h0 h1 hl (show s/4<4 by omega)with k1|⟨k1,k2,k3⟩
 ·rw [Au (by omega)];rfl
 rw [Ax (by omega)];exact(Fc hK k1 (by omega)).1
theorem dH (hK:CU K=true) (hr:D8 K r=true) (s:Nat):(Rp K r s).length=4:=by
 unfold Rp;rw [H0]
 rcases Ck hr with e|⟨h0,h1,hl⟩
 ·rw [Au (by omega)];rfl
 rw [Ax (by omega)];exact(Fc hK h0 h1).1
theorem TZ {s:Nat}:BD (IM K r s n) (K.length:Int)=BI.mk true (Nc K r s n):=by
 unfold BD IM;rw [AB,AS (A3 _),Q7];rfl
theorem TY {s:Nat}:BD (IM K r s n) ((K.length:Int)+1)=BI.mk false (Rp K r s):=by
 unfold BD IM;rw [show(K.length:Int)+1=((K.length+1:Nat):Int)from rfl,AB,AS (by omega),show K.length+1-K.length=1 by omega];rfl
theorem yS {s:Nat} (hK:CU K=true) (hr:D8 K r=true) (hs:s<16) (hn:0<=n):CU (IM K r s n)=true:=by
 rw [Ih];intro j hj;have a:(IM K r s n).length=K.length+2:=by unfold IM;simp
 rw [a]at hj;by_cases h:j<K.length
 ·have hk:BD (IM K r s n) (j:Int)=BD K (j:Int):=M4 (by omega) (by omega);rw [hk];obtain⟨h4,h5⟩:=Ih.1 hK j h;refine⟨h4,λm hm=>?_⟩;have:=h5 m hm
  cases hl:(BD K (j:Int)).Leaf with
  |true=>rw [hl]at this;exact this
  |false=>
   rw [hl]at this;simp only [NK,Ac,Cy,Dn,Al,A7]at this⊢
   rcases this with e|⟨e1,e2⟩
   ·exact .inl e
   refine .inr ⟨e1,?_⟩;rw [show BD (IM K r s n) m=BD K m from M4 e1.1 (by omega)];exact e2
 by_cases e:j=K.length
 ·subst e;rw [TZ];refine⟨Zn hK hr hs n,λm hm=>?_⟩;simp only [NK,Af,A7];unfold Nc at hm
  rcases CN hm with hm|hm
  ·rcases Ck hr with e|⟨h0,h1,hl⟩
   ·rw [Au (by omega)]at hm;simp at hm;omega
   rw [Ax (by omega)]at hm
   rcases FO hK h0 h1 hl (show s/4<4 by omega)with k1|⟨k1,k2,k3⟩
   ·rw [Au (by omega)]at hm;simp at hm;omega
   rw [Ax (by omega)]at hm;have hq:=Ih.1 hK (JZ (BD K r) (s/4)).toNat (by omega);rw [Bq k1,k3]at hq;have:=hq.2 m hm;simpa [NK]using this
  omega
 have:j=K.length+1:=by omega
 subst this;rw [show((K.length+1:Nat):Int)=(K.length:Int)+1 from rfl,TY];refine⟨dH hK hr s,λm hm=>?_⟩;simp only [NK,Ac,Cy,Dn,Al,A7];unfold Rp at hm
 rcases CN hm with hm|hm
 ·rcases Ck hr with e|⟨h0,h1,hl⟩
  ·rw [Au (by omega)]at hm;simp at hm;omega
  rw [Ax (by omega)]at hm;obtain⟨q,hq,rfl⟩:=AF hm;obtain⟨h4,hk⟩:=Fc hK h0 h1;have e5:=(hk q (by omega)).1;rw [Ab hq]at e5
  injection e5 with e5
  rw [e5]
  rcases FO hK h0 h1 hl (show q<4 by omega)with k1|⟨k1,k2,k3⟩
  ·exact .inl k1
  refine .inr ⟨by omega,?_⟩;rw [show BD (IM K r s n) (JZ (BD K r) q)=BD K (JZ (BD K r) q)from M4 k1 (by omega)];exact k3
 refine .inr ⟨by omega,?_⟩;rw [hm,TZ]
theorem nN {s:Nat}:D8 (IM K r s n) ((K.length:Int)+1)=true:=by
 unfold D8;rw [TY,Ad (by unfold IM;simp;omega)];simp
theorem lT {s:Nat} (hK:CU K=true) (hr:D8 K r=true) (hs:s<16):E9 (IM K r s n) ((K.length:Int)+1)=(E9 K r).set s n:=by
 unfold E9;symm;apply ND;intro t ht;unfold Pz;rw [TY];simp only [Ax (show¬((K.length:Int)+1)<0 by omega)];have a:=dH hK hr s;have b:=Zn hK hr hs n;by_cases hq:t/4=s/4
 ·have e1:JZ (BI.mk false (Rp K r s)) (t/4)=(K.length:Int):=by
   unfold JZ Rp;rw [hq,Ci,Au rfl];unfold Rp at a;rw [H0]at a;rw [Au (by rw [a];omega)];rfl
  rw [e1,Ax (by omega),TZ];have e2:JZ (BI.mk true (Nc K r s n)) (t %4)=if t %4=s %4 then n else(if r<0 then 0 else if JZ (BD K r) (s/4)<0 then 0 else JZ (BD K (JZ (BD K r) (s/4))) (t %4)):=by
   unfold JZ Nc;unfold Nc at b;rw [H0]at b;rw [Ci];by_cases e:s %4=t %4
   ·rw [Au e,Au (by rw [b];omega),Au e.symm];rfl
   rw [Ax e,Ax (EL e)];have zero:([0,0,0,0]:List Int)[t %4]?.getD 0=0:=by
    have:t %4<4:=by omega
    generalize t %4=q at this
    match q,this with
    |0,_=>rfl
    |1,_=>rfl
    |2,_=>rfl
    |3,_=>rfl
   by_cases c1:r<0
   ·rw [Au c1,Au c1];exact zero
   rw [Ax c1,Ax c1];unfold JZ;by_cases c2:((BD K r).Kids[s/4]?).getD 0<0
   ·rw [Au c2,Au c2];exact zero
   rw [Ax c2,Ax c2]
  rw [e2,hq];by_cases e:t=s
  ·rw [Au e,Au (by rw [e])]
  rw [Ax e,Ax (by omega)]
 rw [Ax (show¬t=s by intro e;rw [e]at hq;exact hq rfl)];have e1:JZ (BI.mk false (Rp K r s)) (t/4)=if r<0 then-1 else JZ (BD K r) (t/4):=by
  unfold JZ Rp;rw [Ci,Ax (EL hq)];by_cases c1:r<0
  ·rw [Au c1,Au c1];have:t/4<4:=by omega
   generalize t/4=q at this
   match q,this with
   |0,_=>rfl
   |1,_=>rfl
   |2,_=>rfl
   |3,_=>rfl
  rw [Ax c1,Ax c1]
 rw [e1]
 rcases Ck hr with e|⟨h0,h1,hl⟩
 ·rw [e];rfl
 simp only [Ax (show¬r<0 by omega)]
 rcases FO hK h0 h1 hl (show t/4<4 by omega)with k1|⟨k1,k2,k3⟩
 ·rw [k1];rfl
 rw [show BD (IM K r s n) (JZ (BD K r) (t/4))=BD K (JZ (BD K r) (t/4))from M4 k1 (by omega)]
def Lr (n:Nat) (p:Nat->Bool):Nat:=((List.range n).filter p).length
theorem K5 (n:Nat) (p:Nat->Bool):Lr (n+1) p=Lr n p+(if p n=true then 1 else 0):=by
 unfold Lr;rw [Ed,AQ,Ah];by_cases h:p n=true
 ·rw [Au h,BM h];rfl
 rw [Ax h,BN h];rfl
theorem VS (p q:Nat->Bool):∀n,Lr n (λj=>p j||q j)<=Lr n p+Lr n q
 |0=>by simp [Lr]
 |n+1=>by
  have:=VS p q n;rw [K5,K5,K5];cases p n<;>cases q n<;>simp<;>omega
theorem Xs (x:Int):∀n,Lr n (λj=>decide (x=(j:Int)))<=1/\(x>=(n:Int)->Lr n (λj=>decide (x=(j:Int)))=0)
 |0=>by simp [Lr]
 |n+1=>by
  obtain⟨h1,h2⟩:=Xs x n;rw [K5];by_cases h:x=(n:Int)
  ·have:=h2 (by omega);rw [Au (by simpa using h)];exact⟨by omega,λh3=>by omega⟩
  rw [Ax (by simpa using h)];exact⟨by omega,λh3=>by rw [h2 (by omega)]⟩
theorem sS (l:List Int) (n:Nat):Lr n (λj=>l.any λx=>decide (x=(j:Int)))<=l.length:=by
 induction l with
 |nil=>simp [Lr]
 |cons x l ih=>
  simp only [List.any_cons,Az];have:=VS (λj=>decide (x=(j:Int))) (λj=>l.any λx=>decide (x=(j:Int))) n;have:=(Xs x n).1;omega
theorem wG {n:Nat} {q:Nat->Bool} (h:∀j,j<n->p j=true->q j=true):Lr n p<=Lr n q:=by
 induction n with
 |zero=>simp [Lr]
 |succ n ih=>
  have:=ih (λj hj=>h j (by omega));rw [K5,K5];by_cases e:p n=true
  ·rw [Au e,Au (h n (by omega) e)];omega
  rw [Ax e];omega
theorem fV {n:Nat} (h:∀j,j<n->p j=true):Lr n p=n:=by
 induction n with
 |zero=>rfl
 |succ n ih=>rw [K5,Au (h n (by omega)),ih (λj hj=>h j (by omega))]
theorem wB (hK:CU K=true) (hr:D8 K r=true) (n:Nat):Lr n (M9 K r)<=5:=by
 have h1:=VS (λj=>decide (r=(j:Int))) (λj=>(BD K r).Kids.any λn=>decide (n=(j:Int))) n;have h2:=(Xs r n).1;have h3:=sS (BD K r).Kids n
 have h4:Lr n (M9 K r)<=Lr n (λj=>decide (r=(j:Int))||(BD K r).Kids.any λn=>decide (n=(j:Int))):=wG λj _ h=>by
  unfold M9 at h;rw [Al]at h;exact h.2
 rcases Ck hr with e|⟨h0,hl,_⟩
 ·have:Lr n (M9 K r)=Lr n (λ_=>false):=by rw [e];rfl
  rw [this];unfold Lr;rw [B7.2 (by simp)];simp
 have:=(Fc hK h0 hl).1;omega
theorem Wg (hK:CU K=true) (n:Nat):∀(R:List Int),(∀r∈R,D8 K r=true)->Lr n (C1 K R)<=5*R.length
 |[],_=>by simp [Lr,C1]
 |r::R,h=>by
  have h1:=Wg hK n R (λx hx=>h x (by simp [hx]));have h2:=wB hK (h r (by simp)) n;have h3:=VS (M9 K r) (C1 K R) n;have h4:Lr n (C1 K (r::R))=Lr n (λj=>M9 K r j||C1 K R j):=rfl;rw [h4,Az];omega
theorem nA (hK:CU K=true) (hR:∀r∈R,D8 K r=true):(Rq K R).length<=5*R.length:=by
 rw [ZN];exact Wg hK _ R hR
def B9 (s:Store):List Int:=s.Vols.map Vol.Root
structure StoreR (s:Store):Prop where
 len:s.Vols.length<=3
 ar:CU s.Arena.Knots=true
 nx:1<=s.Next/\s.Next<=1000000000
 ids:∀v∈s.Vols,1<=v.Id/\v.Id<=9
 asc:(s.Vols.map Vol.Id).Pairwise (·<·)
 root:∀r∈B9 s,D8 s.Arena.Knots r=true
 lt:∀r∈B9 s,∀x∈E9 s.Arena.Knots r,x<s.Next
 few:s.Arena.Knots.length<=1000
structure CV (s:Store):Prop extends StoreR s where
 used:∀i,i<s.Arena.Knots.length->C1 s.Arena.Knots (B9 s) i=true
theorem CV.small (h:CV s):s.Arena.Knots.length<=15:=by
 have h1:=Wg h.ar s.Arena.Knots.length (B9 s) h.root;rw [fV h.used]at h1;have:(B9 s).length=s.Vols.length:=by unfold B9;rw [Be]
 have:=h.len;omega
def BK (s:Store):List (Int×List Int):=s.Vols.map λv=>(v.Id,E9 s.Arena.Knots v.Root)
def Ki (s:Store):Store:=Store.mk (s.Vols.map λv=>Vol.mk v.Id (Mc s.Arena.Knots (B9 s) v.Root)) (Arena.mk (Rq s.Arena.Knots (B9 s))) s.Next
theorem OA (s:Store):B9 (Ki s)=(B9 s).map (Mc s.Arena.Knots (B9 s)):=by
 unfold B9 Ki;simp only [Fg];rfl
theorem lB (h:StoreR s):CV (Ki s):=by
 have b:(B9 s).length=s.Vols.length:=by unfold B9;rw [Be]
 refine⟨⟨by unfold Ki;simpa using h.len,yJ h.ar h.root,h.nx,?_,?_,?_,?_,?_⟩,?_⟩
 ·intro v hv;unfold Ki at hv;simp only [AJ]at hv;obtain⟨w,hw,rfl⟩:=hv;exact h.ids w hw
 ·have:((Ki s).Vols.map Vol.Id)=s.Vols.map Vol.Id:=by unfold Ki;simp only [Fg];rfl
  rw [this];exact h.asc
 ·intro r hr;rw [OA]at hr;obtain⟨q,hq,rfl⟩:=AJ.1 hr;exact qJ h.root hq
 ·intro r hr;rw [OA]at hr;obtain⟨q,hq,rfl⟩:=AJ.1 hr;have:=lN h.ar h.root hq;intro x hx;have a:x∈E9 s.Arena.Knots q:=by rw [<-this];exact hx
  exact h.lt q hq x a
 ·have:=nA h.ar h.root;have:=h.len;show(Rq s.Arena.Knots (B9 s)).length<=1000;omega
 intro i hi;rw [OA];exact uM h.ar h.root hi
theorem Y8 (h:StoreR s):BK (Ki s)=BK s:=by
 unfold BK;show(s.Vols.map λv=>Vol.mk v.Id (Mc s.Arena.Knots (B9 s) v.Root)).map _=_;rw [Fg];apply CI;intro v hv;have:=lN h.ar h.root (show v.Root∈B9 s from AJ.2 ⟨v,hv,rfl⟩);show(v.Id,E9 (Rq s.Arena.Knots (B9 s)) (Mc s.Arena.Knots (B9 s) v.Root))=_;rw [this]
theorem R0 (s:Store) (hv:s.Vols.length<=1048576):Mp s=some (B9 s):=by
 unfold Mp;obtain⟨b,h1,h2⟩:=Bf (body:=λq:List Int×Int=>Hl s q.1 q.2) (λ(o:List Int) i=>(o,i)) s.Vols.length (λi o=>o=(s.Vols.take i).map Vol.Root) (λb=>b=B9 s)
  (λo i hi ho=>by
   have hx:=Ab hi;simp only [Hl,AG,Ad hi,Af,AB,hx,Aa];rw [Cq (by rw [ho];simp;omega)];simp only [Aa];rw [ad1 (by omega)]
   exact .inl ⟨_,rfl,by rw [ho,DR,hx,Cl];rfl⟩)
  (λo ho=>⟨o,by simp only [Hl,AG,Aq,Aw,Ac],by rw [ho,AP (A3 _)];rfl⟩) (s:=[]) rfl
 have h1':Av (λq:List Int×Int=>Hl s q.1 q.2) ([],0)=some b:=h1;rw [h1',h2];rfl
theorem IG (h:StoreR s):GZ s=some (Ki s):=by
 have hl:=h.len;have hf:=h.few;have d:(B9 s).length=s.Vols.length:=by unfold B9;rw [Be]
 unfold GZ;rw [R0 s (by omega)];simp only [Aa];rw [W3 _ (by omega) h.ar _ (by omega) h.root];simp only [Aa];rw [K9 (by omega)];simp only [Aa];have q:=M3 (body:=λq:Int×List Vol=>IH ((B9 s).map (Mc s.Arena.Knots (B9 s)),Rq s.Arena.Knots (B9 s)) q.1 q.2) (λl i=>(i,l)) (λ_ v=>Vol.mk v.Id (Mc s.Arena.Knots (B9 s) v.Root)) s.Vols
  (λi l x a b c=>by
   have hi:=(Ag.1 b).1;simp only [IH,AG,Ad hi,Af];have:gi ((B9 s).map (Mc s.Arena.Knots (B9 s))) (i:Int)=some (Mc s.Arena.Knots (B9 s) x.Root):=by
    rw [AB,AN];unfold B9;rw [AN,c];rfl
   rw [this,AB,b];simp only [Aa]
   rw [Ey,ad1 (by omega)])
  (λl a=>by simp only [IH,BW,a];rw [Ae (by omega),Ac])
 rw [Ix]at q;rw [q];rfl
theorem Wm (h:CV s):Ki s=s:=by
 have c:∀i,i<=s.Arena.Knots.length->Yb s.Arena.Knots (B9 s) i=i:=λi hi=>fV (λj hj=>h.used j (by omega))
 have a:∀n:Int,n<(s.Arena.Knots.length:Int)->Mc s.Arena.Knots (B9 s) n=n:=λn hn=>by
  unfold Mc;split
  ·rw [c _ (by omega)];omega
  rfl
 have b:∀r∈B9 s,Mc s.Arena.Knots (B9 s) r=r:=λr hr=>by
  rcases Ck (h.root r hr)with e|⟨h0,h1,_⟩
  ·rw [e,QN (by omega)]
  exact a r h1
 have d:Rq s.Arena.Knots (B9 s)=s.Arena.Knots:=by
  unfold Rq;rw [EC.2 (λi hi=>h.used i (by simpa using hi))];apply C7;intro i;rw [AN];by_cases hi:i<s.Arena.Knots.length
  ·rw [P9 hi,Ab hi];simp only [B5];congr 1;have h0:(0:Int)<=(i:Int):=by omega
   have h1:(i:Int)<(s.Arena.Knots.length:Int):=by omega
   unfold V5
   cases hl:(BD s.Arena.Knots (i:Int)).Leaf with
   |true=>
    simp only [Af];rw [<-hl,Qg hi]
   |false=>
    simp only [Ac];have:(BD s.Arena.Knots (i:Int)).Kids.map (Mc s.Arena.Knots (B9 s))=(BD s.Arena.Knots (i:Int)).Kids:=by
     conv=>rhs;rw [<-Sp (BD s.Arena.Knots (i:Int)).Kids]
     apply CI;intro n hn;obtain⟨q,hq,rfl⟩:=AF hn;obtain⟨h4,hk⟩:=Fc h.ar h0 h1;have e5:=(hk q (by omega)).1;rw [Ab hq]at e5
     injection e5 with e5
     rw [e5]
     rcases FO h.ar h0 h1 hl (show q<4 by omega)with k1|⟨k1,k2,k3⟩
     ·rw [k1,QN (by omega)];rfl
     exact a _ (by omega)
    rw [this,<-hl,Qg hi]
  rw [D3 (by simpa using hi),D3 (by omega)];rfl
 unfold Ki;rw [d];have:(s.Vols.map λv=>Vol.mk v.Id (Mc s.Arena.Knots (B9 s) v.Root))=s.Vols:=by
  conv=>rhs;rw [<-Sp s.Vols]
  apply CI;intro v hv;rw [b _ (AJ.2 ⟨v,hv,rfl⟩)];rfl
 rw [this]
theorem Xw {s:Nat} (hs:s<16):Pz K r s∈E9 K r:=AJ.2 ⟨s,by simpa using hs,rfl⟩
theorem NF {l:List Int} {y:Int} (h:l.Pairwise (·<·)) (a:i<j) (hx:l[i]?=some x) (hy:l[j]?=some y):x<y:=by
 obtain⟨h1,rfl⟩:=Ag.1 hx;obtain⟨h2,rfl⟩:=Ag.1 hy;exact KT.1 h i j h1 h2 a
theorem PM (h:CV s):N8 s=some true:=by
 have hl:=h.len;have hf:=h.few;have d:(B9 s).length=s.Vols.length:=by unfold B9;rw [Be]
 unfold N8;rw [BW,Ae (by omega),Ac,JN _ (by omega),h.ar,Ez,Ad h.nx];simp only [Aa,Ak,Ac];obtain⟨b,h1,h2⟩:=Bf (body:=λq:Int=>It s q) (λ(_:Unit) i=>i) s.Vols.length (λ_ _=>True) (λb=>b= .inl ())
  (λ_ i hi _=>by
   have hx:=Ab hi;have hm:s.Vols[i]∈s.Vols:=AC hi;have hr:s.Vols[i].Root∈B9 s:=AJ.2 ⟨_,hm,rfl⟩;simp only [It,AG,Ad hi,Af,AB,hx,Aa];rw [Ez,Ad (h.ids _ hm),LI _ (by omega),h.root _ hr];simp only [Aa,Ak,Ac];have a:(bif(decide ((i:Int)>0))then((gi s.Vols (sb (i:Int) 1)).bind λx2=>bif(decide (x2.Id>=s.Vols[i].Id))then(some true)else(some false))else(some false):Option Bool)=some false:=by
    by_cases h0:i=0
    ·rw [Ae (by omega:¬(i:Int)>0),Ac]
    rw [Ad (by omega:(i:Int)>0),Af,C5 (by omega) (by omega),show(i:Int)-1=((i-1:Nat):Int) by omega,AB,Ab (by omega)];simp only [Aa];have:=NF h.asc (show i-1<i by omega) (x:=s.Vols[i-1].Id) (y:=s.Vols[i].Id) (by rw [AN,Ab (by omega)];rfl) (by rw [AN,Ab (by omega)];rfl);rw [Ae (by omega),Ac]
   rw [a];simp only [Aa,Ac];obtain⟨c,q1,q2⟩:=Bf (body:=λq:Int=>Ir s s.Vols[i] q) (λ(_:Unit) i=>i) 16 (λ_ _=>True) (λb=>b= .inl ())
    (λ_ k hk _=>by
     simp only [Ir];rw [Ad (by omega:(k:Int)<16),Af,UC _ h.ar (h.root _ hr) hk];simp only [Aa];have:=h.lt _ hr _ (Xw hk);rw [Ae (by omega),Ac,ad1 (by omega)]
     exact .inl ⟨(),rfl,trivial⟩)
    (λ_ _=>⟨_,by simp only [Ir];rw [Ae (by omega:¬((16:Nat):Int)<16),Ac],rfl⟩) (s:=()) trivial
   have q1':Av (λq:Int=>Ir s s.Vols[i] q) 0=some c:=q1;rw [q1',q2];simp only [Aa,BA];rw [ad1 (by omega)]
   exact .inl ⟨(),rfl,trivial⟩)
  (λ_ _=>⟨_,by simp only [It,AG,Aq,Aw,Ac],rfl⟩) (s:=()) trivial
 have h1':Av (λq:Int=>It s q) 0=some b:=h1;rw [h1',h2];simp only [Aa,BA];rw [R0 s (by omega)];simp only [Aa];rw [W3 _ (by omega) h.ar _ (by omega) h.root];simp only [Aa];have:Rq s.Arena.Knots (B9 s)=s.Arena.Knots:=by
  have:=Wm h;unfold Ki at this;have:=Ca (λz=>z.Arena.Knots) this;exact this
 rw [this];simp
abbrev Vs:=List (Int×List Int)
def LW (l:Vs) (id:Int):Option (List Int):=(l.find? λp=>p.1==id).map Prod.snd
def oJ (l:Vs) (id:Int) (a:List Int):Vs:=(l.filter λp=>decide (p.1<id))++ [(id,a)]++l.filter λp=>decide (p.1>id)
def ABr (l:Vs) (id:Int):Vs:=l.filter λp=>p.1 !=id
def iC (l:Vs) (id:Int) (s:Nat) (n:Int):Vs:=l.map λp=>if p.1=id then(p.1,p.2.set s n)else p
def Gk (r:Dk):Bool:=decide (0<=r.Arg/\r.Arg<=1000000000)&&(bif r.Kind==1 then r.Vol==0&&r.Chunk==0 else decide (2<=r.Kind/\r.Kind<=5)&&decide (1<=r.Vol/\r.Vol<=9)&&(r.Kind==4||r.Chunk==0)&&
 (bif r.Kind==2 then decide (r.Arg<=9)else bif r.Kind==3 then r.Arg==0 else bif r.Kind==4 then decide (r.Arg<16)&&decide (1<=r.Chunk/\r.Chunk<=1000000000)else decide (r.Arg<16)))
def Su:List Int:=List.replicate 16 0
def DY (l:Vs) (nx:Int) (r:Dk):Option (Vs×Int):=
 if Gk r=false then none
 else if r.Kind=1 then some ([],if r.Arg=0 then 1 else r.Arg)
 else if r.Kind=2 then
  if(0<r.Arg/\LW l r.Arg=none)\/LW l r.Vol≠none\/l.length=3 then none
  else some (oJ l r.Vol (if 0<r.Arg then(LW l r.Arg).getD Su else Su),nx)
 else if LW l r.Vol=none\/r.Chunk=1000000000 then none
 else if r.Kind=3 then some (ABr l r.Vol,nx)
 else some (iC l r.Vol r.Arg.toNat r.Chunk,max nx (r.Chunk+1))
theorem Ma (r:Dk):MT r=some (Gk r):=by
 unfold MT Gk;simp only [Ez,Aa]
 cases decide (0<=r.Arg/\r.Arg<=1000000000)with
 |false=>rfl
 |true=>
  simp only [Ak,Ac,CJ]
  cases r.Kind==1 with
  |true=>
   simp only [Af];cases r.Vol==0<;>rfl
  |false=>
   simp only [Ac]
   cases decide (2<=r.Kind/\r.Kind<=5)with
   |false=>rfl
   |true=>
    cases decide (1<=r.Vol/\r.Vol<=9)with
    |false=>rfl
    |true=>
     have e1:(r.Kind !=4)=!(r.Kind==4):=rfl;have e2:(r.Chunk !=0)=!(r.Chunk==0):=rfl;rw [e1,e2];cases r.Kind==4<;>cases r.Chunk==0<;>cases r.Kind==2<;>cases r.Kind==3<;>cases decide (r.Arg<16)<;>rfl
theorem FY (s:Store) (hv:s.Vols.length<=1048576) (id:Int):(Er s id=some (-1)/\∀v∈s.Vols,v.Id≠id)\/∃k:Nat,∃v,Er s id=some (k:Int)/\s.Vols[k]?=some v/\v.Id=id/\∀j w,j<k->s.Vols[j]?=some w->w.Id≠id:=by
 unfold Er;obtain⟨b,h1,h2⟩:=Bf (body:=λq:Int=>Ko s id q) (λ(_:Unit) i=>i) s.Vols.length (λi _=>∀j w,j<i->s.Vols[j]?=some w->w.Id≠id)
  (λb=>(b= .inl ()/\∀v∈s.Vols,v.Id≠id)\/∃k:Nat,∃v,b= .inr (k:Int)/\s.Vols[k]?=some v/\v.Id=id/\∀j w,j<k->s.Vols[j]?=some w->w.Id≠id)
  (λ_ i hi hs=>by
   have hx:=Ab hi;simp only [Ko,AG,Ad hi,Af,AB,hx,Aa]
   cases e:(s.Vols[i].Id==id)with
   |true=>exact .inr ⟨_,rfl,.inr ⟨i,_,rfl,hx,by simpa using e,hs⟩⟩
   |false=>
    simp only [Ac];rw [ad1 (by omega)];refine .inl ⟨(),rfl,λj w hj hw=>?_⟩;by_cases e2:j=i
    ·subst e2;rw [hx]at hw
     injection hw with hw
     rw [<-hw];simpa using e
    exact hs j w (by omega) hw)
  (λ_ hs=>⟨_,by simp only [Ko,AG,Aq,Aw,Ac],.inl ⟨rfl,λv hv=>by
   obtain⟨j,hj,rfl⟩:=AF hv
   exact hs j _ hj (Ab hj)⟩⟩) (s:=()) (λj w hj=>by omega)
 have h1':Av (λq:Int=>Ko s id q) 0=some b:=h1;rw [h1']
 rcases h2 with⟨rfl,h2⟩|⟨k,v,rfl,h2⟩
 ·exact .inl ⟨rfl,h2⟩
 exact .inr ⟨k,v,rfl,h2⟩
theorem NQ {id:Int}:(∀v∈s.Vols,v.Id≠id)↔LW (BK s) id=none:=by
 unfold LW BK;rw [Option.map_eq_none_iff,EV];constructor
 ·intro h p hp;obtain⟨v,hv,rfl⟩:=AJ.1 hp;simpa using h v hv
 intro h v hv;have:=h _ (AJ.2 ⟨v,hv,rfl⟩);simpa using this
theorem wH {w:Vol} (h:(s.Vols.map Vol.Id).Pairwise (·<·)) (hv:v∈s.Vols) (hw:w∈s.Vols) (e:v.Id=w.Id):v=w:=by
 obtain⟨i,hi,rfl⟩:=AF hv;obtain⟨j,hj,rfl⟩:=AF hw;have gi:(s.Vols.map Vol.Id)[i]?=some s.Vols[i].Id:=by rw [AN,Ab hi];rfl
 have gj:(s.Vols.map Vol.Id)[j]?=some s.Vols[j].Id:=by rw [AN,Ab hj];rfl
 rcases MI i j with h1|h1|h1
 ·have:=NF h h1 gi gj;omega
 ·subst h1;rfl
 have:=NF h h1 gj gi;omega
theorem NP (h:(s.Vols.map Vol.Id).Pairwise (·<·)) (hv:v∈s.Vols):LW (BK s) v.Id=some (E9 s.Arena.Knots v.Root):=by
 unfold LW;have hm:(v.Id,E9 s.Arena.Knots v.Root)∈BK s:=AJ.2 ⟨v,hv,rfl⟩
 cases hf:(BK s).find? λp=>p.1==v.Id with
 |none=>
  rw [EV]at hf;have:=hf _ hm;simp at this
 |some p=>
  have h1:=List.find?_some hf;have h2:=List.mem_of_find?_eq_some hf;obtain⟨w,hw,rfl⟩:=AJ.1 h2;have:w=v:=wH h hw hv (by simpa using h1);rw [this];rfl
theorem Ls (s:Store):(BK s).length=s.Vols.length:=by unfold BK;rw [Be]
theorem eH (K:Ks):E9 K (-1)=Su:=by
 unfold E9 Su;rw [<-Ch (n:=16),<-Je,Ch];apply CI;intro s hs;rfl
theorem kC (s:Store) (p:Int->Bool) (t:Store) (hk:t.Arena=s.Arena) (hv:t.Vols=s.Vols.filter λv=>p v.Id):BK t=(BK s).filter λq=>p q.1:=by
 unfold BK;rw [hk,hv,List.filter_map];rfl
theorem QV {body:List Vol×Int->Option ((List Vol×Int)⊕List Vol)} (l:List Vol) (p:Vol->Bool) (o:List Vol) (hM:l.length+o.length<=1048576) (h1:∀(i:Nat) v (a:List Vol),l[i]?=some v->a.length<=1048576->body (a,(i:Int))=some (.inl (bif p v then a++ [v]else a,((i+1:Nat):Int)))) (h2:∀a,body (a,(l.length:Int))=some (.inr a)):
  Av body (o,0)=some (o++l.filter p):=by
 obtain⟨b,h3,h4⟩:=Bf (body:=body) (λ(q:List Vol) i=>(q,i)) l.length (λi q=>q=o++(l.take i).filter p) (λb=>b=o++l.filter p)
  (λq i hi hq=>by
   have hx:=Ab hi;refine .inl ⟨_,h1 i _ q hx ?_,?_⟩
   ·rw [hq,Ah];have:=CF p (l.take i);rw [AE]at this;omega
   rw [hq,DR,hx,AQ]
   cases e:p l[i]with
   |true=>simp [e]
   |false=>simp [e])
  (λq hq=>⟨q,h2 q,by rw [hq,AP (A3 _)]⟩) (s:=o) (by simp)
 rw [h3,h4]
theorem sC {R':List Int} (h:∀r∈R,r∈R') (hu:C1 K R i=true):C1 K R' i=true:=by
 unfold C1 at hu⊢;rw [CQ]at hu⊢;obtain⟨r,hr,h2⟩:=hu;exact⟨r,h r hr,h2⟩
theorem Wt {l:List Vol} (h:(l.map Vol.Id).Pairwise (·<·)) (v:Vol):(((l.filter λw=>decide (w.Id<v.Id))++ [v]++l.filter λw=>decide (w.Id>v.Id)).map Vol.Id).Pairwise (·<·):=by
 rw [JA]at h;rw [JA,Ao,B3];refine⟨h.filter _,?_,?_⟩
 ·rw [BS,CX];exact⟨λw hw=>by simpa using(AU.1 hw).2,h.filter _⟩
 intro a ha b hb;have h1:a.Id<v.Id:=by simpa using(AU.1 ha).2
 rw [BS,BB]at hb
 rcases hb with rfl|hb
 ·exact h1
 have:b.Id>v.Id:=by simpa using(AU.1 hb).2
 omega
theorem YE (l:List Vol) (id:Int):(l.filter λw=>decide (w.Id<id)).length+(l.filter λw=>decide (w.Id>id)).length<=l.length:=by
 induction l with
 |nil=>simp
 |cons v l ih=>
  simp only [List.filter_cons,Az];by_cases h1:v.Id<id
  ·rw [Au (by simpa using h1),Ax (by simp;omega),Az];omega
  rw [Ax (by simpa using h1)];split
  ·rw [Az];omega
  omega
def KJ (s:Store) (r:Dk) (o:Option (Store×Bool)):Prop:=match DY (BK s) s.Next r with
 |none=>o=some (s,false)
 |some (l,nx)=>∃t,o=some (t,true)/\CV t/\BK t=l/\t.Next=nx
theorem oQ {r:Dk} (h:CV s) (hr:Gk r=true) (hk:r.Kind=2):KJ s r (FE s r):=by
 have hl:=h.len;have d:=KS h.ar (by have:=h.few;omega);have a:=FH s d (by omega);have hb:Gk r=true:=hr;unfold Gk at hr;rw [hk]at hr;simp at hr;unfold KJ DY;rw [hb,hk];simp only [IT,Ga,BX,show¬((2:Int)=1) by omega];unfold FE;have root:(LW (BK s) r.Arg=none/\0<r.Arg/\(bif(decide (r.Arg>0))then((Er s r.Arg).bind λv1=>bif(decide (v1<0))then((DZ s).bind λv2=>some (.inr (v2,false)))else((gi s.Vols v1).bind λx1=>some (.inl x1.Root)))else(some (.inl (-1))):Option ((Int)⊕((Store×Bool))))=some (.inr (s,false)))\/
   (¬(0<r.Arg/\LW (BK s) r.Arg=none)/\∃q,D8 s.Arena.Knots q=true/\(q= -1\/q∈B9 s)/\E9 s.Arena.Knots q=(if 0<r.Arg then(LW (BK s) r.Arg).getD Su else Su)/\(bif(decide (r.Arg>0))then((Er s r.Arg).bind λv1=>bif(decide (v1<0))then((DZ s).bind λv2=>some (.inr (v2,false)))else((gi s.Vols v1).bind λx1=>some (.inl x1.Root)))else(some (.inl (-1))):Option ((Int)⊕((Store×Bool))))=some (.inl q)):=by
  by_cases h0:0<r.Arg
  ·rw [Ad (by omega:r.Arg>0)];simp only [Af]
   rcases FY s (by omega) r.Arg with⟨h1,h2⟩|⟨k,v,h1,h2,h3,_⟩
   ·left;rw [h1,a];exact⟨NQ.1 h2,h0,rfl⟩
   right;rw [h1];have hm:=A6 h2;have hg:=NP h.asc hm;rw [h3]at hg;refine⟨λhh=>(by rw [hg]at hh;cases hh.2),v.Root,h.root _ (AJ.2 ⟨v,hm,rfl⟩),.inr (AJ.2 ⟨v,hm,rfl⟩),?_,?_⟩
   ·rw [Au h0,hg];rfl
   simp only [Aa];rw [Ae (by omega),Ac,AB,h2];rfl
  right;rw [Ae (by omega:¬r.Arg>0),Ax h0];exact⟨λhh=>h0 hh.1,-1,rfl,.inl rfl,eH _,rfl⟩
 rcases root with⟨g1,g2,g3⟩|⟨g1,q,g2,g3,g4,g5⟩
 ·rw [g3,Au (.inl ⟨g2,g1⟩)];rfl
 rw [g5];simp only [Aa,BA]
 rcases FY s (by omega) r.Vol with⟨h1,h2⟩|⟨k,v,h1,h2,h3,_⟩
 ·rw [h1];simp only [Aa];rw [Ae (by omega),Ac,BW];have j:LW (BK s) r.Vol=none:=NQ.1 h2;by_cases h3:s.Vols.length=3
  ·rw [h3,Au (.inr (.inr (by rw [Ls,h3])))];simp only [Aa];rw [a];rfl
  have e3:((s.Vols.length:Int)==3)=false:=by simp;omega
  rw [e3,Ax (by
   rintro(hh|hh|hh)
   ·exact g1 hh
   ·exact hh j
   rw [Ls]at hh;exact h3 hh)]
  simp only [Aa,Ac];rw [a];simp only [Aa];have k1:=QV (body:=λq:List Vol×Int=>GR s r q.1 q.2) s.Vols (λv=>decide (v.Id<r.Vol)) [] (by simp;omega)
   (λi v c hv ho=>by
    have hi:=(Ag.1 hv).1;simp only [GR,AG,Ad hi,Af,AB,hv,Aa];rw [ad1 (by omega)]
    cases decide (v.Id<r.Vol)with
    |true=>simp only [Af];rw [Cq (by simp;omega)];rfl
    |false=>rfl)
   (λc=>by simp only [GR,AG,Aq,Aw,Ac])
  rw [A5]at k1;rw [k1];simp only [Aa];have l:=YE s.Vols r.Vol;rw [Cq (by simp;omega)];simp only [Aa];have k2:=QV (body:=λq:List Vol×Int=>GQ s r q.1 q.2) s.Vols (λv=>decide (v.Id>r.Vol)) ((s.Vols.filter λv=>decide (v.Id<r.Vol))++ [Vol.mk r.Vol q]) (by simp;omega)
   (λi v c hv ho=>by
    have hi:=(Ag.1 hv).1;simp only [GQ,AG,Ad hi,Af,AB,hv,Aa];rw [ad1 (by omega)]
    cases decide (v.Id>r.Vol)with
    |true=>simp only [Af];rw [Cq (by simp;omega)];rfl
    |false=>rfl)
   (λc=>by simp only [GQ,AG,Aq,Aw,Ac])
  rw [k2];simp only [Aa];have f:((s.Vols.filter λv=>decide (v.Id<r.Vol))++ [Vol.mk r.Vol q]++s.Vols.filter λv=>decide (v.Id>r.Vol)).length<=3:=by simp only [Ah,Az,Bm];omega
  have g:∀x∈B9 s,x∈(B9 (Store.mk ((s.Vols.filter λv=>decide (v.Id<r.Vol))++ [Vol.mk r.Vol q]++s.Vols.filter λv=>decide (v.Id>r.Vol)) s.Arena s.Next)):=by
   intro x hx;obtain⟨v,hv,rfl⟩:=AJ.1 hx;refine AJ.2 ⟨v,?_,rfl⟩;have:=h2 v hv;simp only [Ai,AU,Ay];by_cases e:v.Id<r.Vol
   ·exact .inl (.inl ⟨hv,by simpa using e⟩)
   exact .inr ⟨hv,by simp;omega⟩
  have b:∀x∈(B9 (Store.mk ((s.Vols.filter λv=>decide (v.Id<r.Vol))++ [Vol.mk r.Vol q]++s.Vols.filter λv=>decide (v.Id>r.Vol)) s.Arena s.Next)),x= -1\/x∈B9 s:=by
   intro x hx;obtain⟨v,hv,rfl⟩:=AJ.1 hx;simp only [Ai,AU,Ay]at hv
   rcases hv with(hv|rfl)|hv
   ·exact .inr (AJ.2 ⟨v,hv.1,rfl⟩)
   ·exact g3
   exact .inr (AJ.2 ⟨v,hv.1,rfl⟩)
  refine⟨_,rfl,⟨⟨f,h.ar,h.nx,?_,Wt h.asc (Vol.mk r.Vol q),?_,?_,h.few⟩,?_⟩,?_,rfl⟩
  ·intro v hv;simp only [Ai,AU,Ay]at hv
   rcases hv with(hv|rfl)|hv
   ·exact h.ids v hv.1
   ·show 1<=r.Vol/\r.Vol<=9;omega
   exact h.ids v hv.1
  ·intro x hx
   rcases b x hx with e|e
   ·rw [e];rfl
   exact h.root x e
  ·intro x hx
   rcases b x hx with e|e
   ·intro y hy;rw [e]at hy;change y∈E9 s.Arena.Knots (-1)at hy;rw [eH]at hy;have:=Dy hy;have:=h.nx;show y<s.Next;omega
   exact h.lt x e
  ·intro i hi;exact sC g (h.used i hi)
  rw [<-g4];unfold oJ BK;simp only [Cl,B8,kM,List.filter_map];rfl
 rw [h1];simp only [Aa];rw [Ad (by omega),Af];have hg:=NP h.asc (A6 h2);rw [h3]at hg;rw [Au (.inr (.inl (by rw [hg];simp)))];simp only [Aa,Af];rw [a];rfl
theorem R9 {l:List Vol} (h:(l.map Vol.Id).Pairwise (·<·)) (hv:l[k]?=some v):l.take k++l.drop (k+1)=l.filter λw=>w.Id !=v.Id:=by
 rw [JA]at h;have hk:=(Ag.1 hv).1;have e:l=l.take k++v::l.drop (k+1):=by
  have h2:=Bj hk;rw [(Ag.1 hv).2]at h2;rw [<-h2,Bz]
 rw [e,B3]at h;obtain⟨h1,h2,h3⟩:=h;rw [CX]at h2
 conv=>rhs;rw [e]
 rw [AQ,BN (by simp)];congr 1
 ·symm;rw [EC];intro w hw;have:=h3 w hw v (by simp);simp;omega
 symm;rw [EC];intro w hw;have:=h2.1 w hw;simp;omega
theorem sO (h:CV s) (id:Int):StoreR (Store.mk (s.Vols.filter λw=>w.Id !=id) s.Arena s.Next):=by
 have hl:=h.len;refine⟨?_,h.ar,h.nx,λv hv=>h.ids v (AU.1 hv).1,?_,?_,?_,h.few⟩
 ·have:=CF (λw:Vol=>w.Id !=id) s.Vols;show(s.Vols.filter λw=>w.Id !=id).length<=3;omega
 ·have:=h.asc;rw [JA]at this⊢;exact this.filter _
 ·intro x hx;obtain⟨w,hw,rfl⟩:=AJ.1 hx;exact h.root _ (AJ.2 ⟨w,(AU.1 hw).1,rfl⟩)
 intro x hx;obtain⟨w,hw,rfl⟩:=AJ.1 hx;exact h.lt _ (AJ.2 ⟨w,(AU.1 hw).1,rfl⟩)
theorem xE {t:Nat} (h:CV s) (h2:s.Vols[k]?=some v) (ht:t<16) (hn:0<=n) (g:n+1<=1000000000):StoreR (Store.mk (s.Vols.set k (Vol.mk v.Id ((s.Arena.Knots.length:Int)+1))) (Arena.mk (IM s.Arena.Knots v.Root t n)) (max s.Next (n+1))):=by
 have hl:=h.len;have hm:=A6 h2;have d:=(Ag.1 h2).1;have a:=h.root _ (AJ.2 ⟨v,hm,rfl⟩);have i:=h.small
 have b:∀w∈s.Vols.set k (Vol.mk v.Id ((s.Arena.Knots.length:Int)+1)),w∈s.Vols\/w=Vol.mk v.Id ((s.Arena.Knots.length:Int)+1):=λw hw=>CN hw
 refine⟨by simpa using hl,yS h.ar a ht hn,?_,?_,?_,?_,?_,?_⟩
 ·have:=h.nx;show 1<=max s.Next (n+1)/\max s.Next (n+1)<=1000000000;omega
 ·intro w hw
  rcases b w hw with hw|rfl
  ·exact h.ids w hw
  exact h.ids v hm
 ·have:(s.Vols.set k (Vol.mk v.Id ((s.Arena.Knots.length:Int)+1))).map Vol.Id=s.Vols.map Vol.Id:=by
   rw [List.map_set];show(s.Vols.map Vol.Id).set k v.Id=_;apply C7;intro j;rw [Ci];split
   ·rename_i e;subst e;rw [Be,Au d,AN,h2];rfl
   rfl
  rw [this];exact h.asc
 ·intro x hx;obtain⟨w,hw,rfl⟩:=AJ.1 hx
  rcases b w hw with hw|rfl
  ·exact qF (h.root _ (AJ.2 ⟨w,hw,rfl⟩))
  exact nN
 ·intro x hx y hy;obtain⟨w,hw,rfl⟩:=AJ.1 hx;show y<max s.Next (n+1)
  rcases b w hw with hw|rfl
  ·have f:=h.root _ (AJ.2 ⟨w,hw,rfl⟩);have c:y∈E9 s.Arena.Knots w.Root:=by rw [<-lJ (X:=[BI.mk true (Nc s.Arena.Knots v.Root t n),BI.mk false (Rp s.Arena.Knots v.Root t)]) h.ar f];exact hy
   have:=h.lt _ (AJ.2 ⟨w,hw,rfl⟩) y c;omega
  have c:y∈(E9 s.Arena.Knots v.Root).set t n:=by rw [<-lT (s:=t) (n:=n) h.ar a (by omega)];exact hy
  rcases CN c with c|rfl
  ·have:=h.lt _ (AJ.2 ⟨v,hm,rfl⟩) y c;omega
  omega
 show(IM s.Arena.Knots v.Root t n).length<=1000;unfold IM;simp;omega
theorem Xp (h:CV s) (r:Dk):KJ s r (QK s r):=by
 have hl:=h.len;have d:=KS h.ar (by have:=h.few;omega);have a:=FH s d (by omega);unfold QK;rw [PM h,Ma];simp only [Aa,Ak,Ac]
 cases hb:Gk r with
 |false=>
  simp only [AH,Af];rw [a];unfold KJ DY;rw [hb];rfl
 |true=>
  simp only [Ak,Ac];have hr:=hb;unfold Gk at hr
  cases k1:(r.Kind==1)with
  |true=>
   have e1:r.Kind=1:=by simpa using k1
   rw [e1]at hr;simp at hr;unfold KJ DY;rw [hb,e1];simp only [IT,Ga,BX,Af];have:(bif(r.Arg==0)then(some 1)else(some r.Arg):Option (Int))=some (if r.Arg=0 then 1 else r.Arg):=by
    by_cases e:r.Arg=0
    ·rw [Au e,e];rfl
    rw [Ax e,show(r.Arg==0)=false by simpa using e];rfl
   rw [this];refine⟨_,rfl,⟨⟨by simp,rfl,?_,by simp,by simp,by simp [B9],by simp [B9],by simp⟩,by simp⟩,rfl,rfl⟩;show 1<=(if r.Arg=0 then 1 else r.Arg)/\(if r.Arg=0 then 1 else r.Arg)<=1000000000;split<;>omega
  |false=>
   simp only [Ac];have n1:r.Kind≠1:=by simpa using k1
   rw [k1]at hr
   cases k2:(r.Kind==2)with
   |true=>
    simp only [Af];have:=oQ h hb (by simpa using k2);have e:((FE s r).bind λv4=>some (v4.1,v4.2))=FE s r:=by cases FE s r<;>rfl
    rw [e];exact this
   |false=>
    simp only [Ac];have n2:r.Kind≠2:=by simpa using k2
    rw [k2]at hr;have hv:1<=r.Vol/\r.Vol<=9:=by simp at hr;omega
    unfold KJ DY;rw [hb];simp only [IT,Ga,Ax n1,Ax n2]
    rcases FY s (by omega) r.Vol with⟨h1,h2⟩|⟨k,v,h1,h2,h3,_⟩
    ·rw [h1];simp only [Aa];rw [Ad (by omega),Af,Au (.inl (NQ.1 h2))];simp only [Aa,Af];rw [a];rfl
    rw [h1];simp only [Aa];rw [Ae (by omega),Ac];simp only [Aa];have hm:=A6 h2;have g:=(Ag.1 h2).1;have hg:=NP h.asc hm;rw [h3]at hg
    cases hc:(r.Chunk==1000000000)with
    |true=>
     simp only [Af];rw [Au (.inr (by simpa using hc)),a];rfl
    |false=>
     simp only [Ac];have i:r.Chunk≠1000000000:=by simpa using hc
     rw [Ax (by
      rintro(hh|hh)
      ·rw [hg]at hh;cases hh
      exact i hh),a]
     simp only [Aa]
     cases k3:(r.Kind==3)with
     |true=>
      have e3:r.Kind=3:=by simpa using k3
      rw [Au e3];simp only [Af];rw [BW,ad1 (by omega)];have d1:dr s.Vols 0 (k:Int)=some (s.Vols.take k):=by
       unfold dr;rw [Au ⟨by omega,by omega,by omega⟩];simp
      have d2:dr s.Vols ((k+1:Nat):Int) (s.Vols.length:Int)=some (s.Vols.drop (k+1)):=by
       unfold dr;rw [Au ⟨by omega,by omega,by omega⟩,Ba,Ba,AP (by simp)]
      rw [d1,d2];simp only [Aa];rw [K9 (by simp;omega)];simp only [Aa];rw [Cq (by simp;omega),R9 h.asc h2,h3];simp only [Aa];have hR:=sO h r.Vol;rw [IG hR];refine⟨_,rfl,lB hR,?_,rfl⟩;rw [Y8 hR];exact kC s (λid=>id !=r.Vol) _ rfl rfl
     |false=>
      have n3:r.Kind≠3:=by simpa using k3
      rw [Ax n3];simp only [Ac];rw [k3]at hr;have ha:0<=r.Arg/\r.Arg<16/\0<=r.Chunk/\r.Chunk<=1000000000:=by
       cases k4:(r.Kind==4)with
       |true=>rw [k4]at hr;simp at hr;omega
       |false=>rw [k4]at hr;simp at hr;omega
      obtain⟨t,ht⟩:∃t:Nat,r.Arg=(t:Int):=⟨_,(Bq ha.1).symm⟩;rw [AB,h2];simp only [Aa];have c:=h.root _ (AJ.2 ⟨v,hm,rfl⟩);rw [ht,W5 _ (by have:=h.few;omega) h.ar c (by omega) ha.2.2.1];simp only [Aa];rw [Ey];have o:=h.small;have hR:=xE h h2 (show t<16 by omega) ha.2.2.1 (show r.Chunk+1<=1000000000 by omega);have f:BK (Store.mk (s.Vols.set k (Vol.mk v.Id ((s.Arena.Knots.length:Int)+1))) (Arena.mk (IM s.Arena.Knots v.Root t r.Chunk)) (max s.Next (r.Chunk+1)))=iC (BK s) r.Vol t r.Chunk:=by
       unfold BK iC;simp only [Fg];apply C7;intro j;rw [AN,AN,Ci];by_cases e:k=j
       ·subst e;rw [Au rfl,Au g,h2];simp only [B5,Function.comp];rw [Au h3,lT h.ar c (by omega)]
       rw [Ax e]
       cases hj:s.Vols[j]? with
       |none=>rfl
       |some w=>
        have l:=A6 hj;have m:w.Id≠r.Vol:=by
         intro e2;have gi:(s.Vols.map Vol.Id)[k]?=some v.Id:=by rw [AN,h2];rfl
         have gj:(s.Vols.map Vol.Id)[j]?=some w.Id:=by rw [AN,hj];rfl
         rcases MI k j with q|q|q
         ·have:=NF h.asc q gi gj;omega
         ·exact e q
         have:=NF h.asc q gj gi;omega
        simp only [B5,Function.comp];rw [Ax m];have:=lJ (X:=[BI.mk true (Nc s.Arena.Knots v.Root t r.Chunk),BI.mk false (Rp s.Arena.Knots v.Root t)]) h.ar (h.root _ (AJ.2 ⟨w,l,rfl⟩));unfold IM;rw [this]
      have n:∀b:Bool,b=decide (r.Chunk>=s.Next)->(bif b then((GZ (Store.mk (s.Vols.set k (Vol.mk v.Id ((s.Arena.Knots.length:Int)+1))) (Arena.mk (IM s.Arena.Knots v.Root t r.Chunk)) (ad r.Chunk 1))).bind λv11=>some (v11,true))else((GZ (Store.mk (s.Vols.set k (Vol.mk v.Id ((s.Arena.Knots.length:Int)+1))) (Arena.mk (IM s.Arena.Knots v.Root t r.Chunk)) s.Next)).bind λv12=>some (v12,true)))=(GZ (Store.mk (s.Vols.set k (Vol.mk v.Id ((s.Arena.Knots.length:Int)+1))) (Arena.mk (IM s.Arena.Knots v.Root t r.Chunk)) (max s.Next (r.Chunk+1)))).bind λv=>some (v,true):=by
       intro b hb;have:=h.nx;by_cases e:r.Chunk>=s.Next
       ·rw [hb,Ad e,Af,Cx (by omega) (by omega),show max s.Next (r.Chunk+1)=r.Chunk+1 by omega]
       rw [hb,Ae e,Ac,show max s.Next (r.Chunk+1)=s.Next by omega]
      rw [n _ rfl,IG hR];refine⟨_,rfl,lB hR,?_,rfl⟩;rw [Y8 hR,f,Ba]
end Go.TI
