/- Worlds are sound for both sides alike. No condition; no program is in sight. -/
import Derived.Test.YtnlbnbfafkgldaaGreatSWD
set_option linter.unusedVariables false
set_option linter.unusedSimpArgs false
namespace Go.TI
open Go
def u32 (s:Int):Prop:=0<=s/\s<4294967296
theorem fA (s:Int) (hs:u32 s):∃v,Aq (λs:Int×Int=>GL s.1 s.2) (s,0)=some v/\Aq (λs:Int×Int=>GT s.1 s.2) (s,0)=some v/\u32 v:=
 LX (body:=λs:Int×Int=>GL s.1 s.2) (body':=λs:Int×Int=>GT s.1 s.2) (λ(s:Int) i=>(s,i)) 8 (λ_ s=>u32 s) u32
  (λs i hi hs=>by
   simp only[GL,GT];rw[Ab (by omega:(i:Int)<8),Af,Af,w6 hs.1 hs.2,<-tR hs.1 hs.2];refine⟨rfl,.inl ?_⟩;have hw:u32 (IntKind.u32.wrap (Int.tdiv s 2)):=by rw[IntKind.wrap_u32];constructor<;>omega
   cases Int.tmod s 2==1
   ·exact⟨_,by rw[Ac,ad1 (by omega)],hw⟩
   exact⟨_,by rw[Af,ad1 (by omega)],qL _ _⟩)
  (λs hs=>by
   simp only[GL,GT]
   exact⟨rfl,s,rfl,hs⟩) (s:=s) hs
theorem e9 (s:Int) (t:ByteArray) (hs:u32 s) (ht:(L t).length<=9223372036854775806):∃v,OL s t=some v/\OY s t=some v/\u32 v:=by
 obtain⟨v,h1,h2,h3⟩:=LX (body:=λs:Int×Int=>Ig t s.1 s.2) (body':=λs:Int×Int=>Im t s.1 s.2) (λ(s:Int) i=>(s,i)) (L t).length (λ_ s=>u32 s) u32
  (λs i hi hs=>by
   obtain⟨v,h1,h2,h3⟩:=fA (xr s (IntKind.u32.wrap ((L t)[i]).toNat)) (qL _ _);simp only[Ig,Im];rw[Ab (by rw[CX];omega:(i:Int)<EU t),Af,Af,I1 t hi,Aa,Aa,h1,h2]
   exact⟨rfl,.inl ⟨v,by rw[Aa,ad1 (by omega)],h3⟩⟩)
  (λs hs=>by
   simp only[Ig,Im];rw[Ae (by rw[CX];omega:¬((L t).length:Int)<EU t),Ac,Ac]
   exact⟨rfl,s,rfl,hs⟩) (s:=s) hs
 unfold OL OY;rw[h1,h2];exact⟨v,rfl,rfl,h3⟩
theorem aY (t:ByteArray) (ht:(L t).length<=9223372036854775806):∃v,Mz t=some v/\Tz t=some v/\u32 v:=by
 obtain⟨v,h1,h2,h3⟩:=e9 4294967295 t ⟨by omega,by omega⟩ ht;unfold Mz Tz;rw[h1,h2];exact⟨v,rfl,rfl,h3⟩
def four (v:Int):ByteArray:=H3 [IntKind.u8.wrap (Int.fdiv v (2^(min (24:Int).toNat IntKind.u32.bits))),IntKind.u8.wrap (Int.fdiv v (2^(min (16:Int).toNat IntKind.u32.bits))),IntKind.u8.wrap (Int.fdiv v (2^(min (8:Int).toNat IntKind.u32.bits))),IntKind.u8.wrap v]
theorem nF (v:Int):(L (four v)).length=4:=by rw[four,LC];rfl
theorem kA (t:ByteArray):Rr t=Ih t:=by
 unfold Rr Ih;by_cases h:(EU t)>20000
 ·rw[Ab h];rfl
 rw[Ae h,Ac,Ac];rw[CX]at h;obtain⟨v,h1,h2,_⟩:=aY t (by omega);rw[h1,h2];rfl
theorem WV (t:ByteArray):(20000<(L t).length->Ih t=some (bs [],false))/\((L t).length<=20000->∃v,Mz t=some v/\Ih t=some (t++four v,true)):=by
 unfold Ih;rw[CX];refine⟨λh=>by rw[Ab (by omega),Af],λh=>?_⟩;obtain⟨v,h1,h2,_⟩:=aY t (by omega);rw[Ae (by omega),Ac,h1];refine⟨v,rfl,?_⟩;have:Ko v=some (four v):=rfl;rw[Aa,this,Aa,JK _ _ (by rw[nF];omega),Aa]
theorem aW (t:ByteArray) (ht:(L t).length<=9223372036854775806):∃u ok,Mx t=some (u,ok)/\MK t=some (u,ok)/\(ok=true->(L u).length<=20000/\∃v,Mz u=some v/\t=u++four v)/\(ok=false->u=bs []):=by
 unfold Mx MK;have e4:sb (EU t) 4=((L t).length:Int)-4:=by rw[CX,CB (by omega) (by omega)]
 rw[e4];by_cases h4:(L t).length<4
 ·rw[Ab (by omega:((L t).length:Int)-4<0),Ab (by rw[CX];omega:EU t<4)];exact⟨bs [],false,rfl,rfl,by simp,λ_=>rfl⟩
 rw[Ae (by omega:¬((L t).length:Int)-4<0),Ae (by rw[CX];omega:¬EU t<4)];simp only[Ac];have en:((L t).length:Int)-4=(((L t).length-4:Nat):Int):=by omega
 rw[en,CX];have b:sub t 0 (((L t).length-4:Nat):Int)=some (t.extract 0 ((L t).length-4)):=IQ t (i:=0) (by omega) (by omega);have a:sub t (((L t).length-4:Nat):Int) ((L t).length:Int)=some (t.extract ((L t).length-4) (L t).length):=IQ t (by omega) (by omega);rw[b,a];simp only[Aa];have hu:(L (t.extract 0 ((L t).length-4))).length=(L t).length-4:=by rw[KS];simp
 obtain⟨k1,k2⟩:=WV (t.extract 0 ((L t).length-4));rw[kA];by_cases hb:20000<(L t).length-4
 ·rw[Ab (by omega:(((L t).length-4:Nat):Int)>20000),k1 (by omega)];exact⟨bs [],false,rfl,rfl,by simp,λ_=>rfl⟩
 obtain⟨v,h1,h2⟩:=k2 (by omega);rw[Ae (by omega:¬(((L t).length-4:Nat):Int)>20000),h1,h2];have h3:Ko v=some (four v):=rfl;simp only[Ac,Aa,h3,Ap];have c:seq (t.extract ((L t).length-4) (L t).length) (four v)=seq (t.extract 0 ((L t).length-4)++four v) t:=by
  rw[QU,QU,Fu,KS,KS,Ck,A4,A4];have e1:List.take ((L t).length-((L t).length-4)) (List.drop ((L t).length-4) (L t))=(L t).drop ((L t).length-4):=AT (by simp);have e2:List.take ((L t).length-4-0) (List.drop 0 (L t))=(L t).take ((L t).length-4):=by simp
  rw[e1,e2];constructor
  ·intro h;rw[<-h,Bj]
  intro h;have h':(L t).take ((L t).length-4)++L (four v)=(L t).take ((L t).length-4)++(L t).drop ((L t).length-4):=by rw[Bj];exact h
  exact(List.append_cancel_left h').symm
 rw[c]
 cases hs:seq (t.extract 0 ((L t).length-4)++four v) t with
 |false=>exact⟨bs [],false,rfl,rfl,by simp,λ_=>rfl⟩
 |true=>
  rw[NK,A4]at hs;exact⟨_,true,rfl,rfl,λ_=>⟨by omega,v,h1,hs.symm⟩,by simp⟩
theorem LY (n:Nat) (h:n<=1099511627776):∃s,Jo (n:Int)=some s/\L s=KV n:=by
 unfold Jo;obtain⟨m,o,h1,h2,h3,h4⟩:=WN (body:=λs:Int×List Int=>NM s.1 s.2) (λ_ _=>rfl) n [] (by simpa using h);rw[h1,Aa];have:IntKind.u8.wrap (m:Int)=m:=by rw[IntKind.wrap_u8];omega
 rw[this,C4 (by simp only[Aj,Bf]at h3⊢;omega),Aa];refine⟨_,rfl,?_⟩;rw[LC,h4];simp
def qR (t:ByteArray) (at_:Int) (r:Int×Int×Bool):Prop:=(r.2.2=false/\r.1=0/\r.2.1=0)\/(r.2.2=true/\∃(a b n:Nat),at_=a/\r.2.1=b/\r.1=n/\a<b/\b<=(L t).length/\n<=1000000000/\KV n=((L t).drop a).take (b-a))
theorem TU (l:List UInt8) (a k:Nat) (h:a+k<l.length):(l.drop a).take (k+1)=(l.drop a).take k++ [l[a+k]]:=by
 rw[Az (by simp;omega),List.getElem_drop]
theorem mA (k:Nat) (h:k<5):(128:Nat)^k<=268435456:=by
 have:k<=4:=by omega
 calc 128^k<=128^4:=Nat.pow_le_pow_right (by omega) this
  _=268435456:=by decide
theorem fL:∀ds:List UInt8,Gt ds<128^ds.length
 |[]=>by simp[Gt]
 |d::ds=>by
  have:=fL ds;simp only[Gt,AH,Nat.pow_succ];omega
theorem oU (x k:Nat) (hx:x<128) (hk:k<5):shl .i64 (x:Int) (ml 7 (k:Int))=some ((x*128^k:Nat):Int):=by
 have h7:ml 7 (k:Int)=((7*k:Nat):Int):=by rw[W7 (by omega) (by omega)];omega
 unfold shl;rw[h7,Au (by omega)];have e:(2:Int)^(min ((7*k:Nat):Int).toNat IntKind.i64.bits)=((128^k:Nat):Int):=by
  have hb:IntKind.i64.bits=64:=rfl;have h128:(128:Nat)^k=2^(7*k):=by rw[Nat.pow_mul]
  rw[hb,AZ,Nat.min_eq_left (by omega),h128]
  norm_cast
 rw[e];have hp:=mA k hk;have hm:x*128^k<=128*268435456:=Nat.mul_le_mul (by omega) hp;have ec:(x:Int)*((128^k:Nat):Int)=((x*128^k:Nat):Int):=by norm_cast
 rw[ec,TE (by omega) (by omega)]
theorem oN (x:Nat):Int.tmod (x:Int) 128=((x %128:Nat):Int):=rfl
theorem GJ (t:ByteArray) (at_:Int) (ht:(L t).length<=4611686018427387904) (p:oI at_):∃r,Kp t at_=some r/\HM t at_=some r/\qR t at_ r:=by
 have fails:∀(at_:Int),(at_<0\/((L t).length:Int)<=at_)->oI at_->HM t at_=some (0,0,false):=by
  intro at_ h p;unfold HM;rw[A9];simp only[FQ];rw[Ab (by omega:(0:Int)<5),Af];by_cases h0:at_>=0
  ·rw[Ab h0,Af,CX,CB (by omega) (by omega),Ae (by omega)];rfl
  rw[Ae h0];rfl
 by_cases h5:0<=at_/\at_<(L t).length
 ·obtain⟨a,rfl⟩:=Co h5.1;have ha:a<(L t).length:=by omega
  have h6:∀(B1:Int×Int×Int->Option ((Int×Int×Int)⊕Unit⊕(Int×Int×Bool))) (B2:Int×Int->Option ((Int×Int)⊕Unit⊕(Int×Int×Bool))),(∀n sc i,B1 (n,sc,i)=FI t (a:Int) n sc i)->(∀n k,B2 (n,k)=FQ t (a:Int) n k)->∀(m k:Nat),k+m=5->a+k<=(L t).length->(∀d∈((L t).drop a).take k,128<=d.toNat)->
    ∃r,(Aq B1 (((Gt (((L t).drop a).take k):Nat):Int),((128^k:Nat):Int),((a+k:Nat):Int))=some r/\Aq B2 (((Gt (((L t).drop a).take k):Nat):Int),(k:Int))=some r)/\(r= .inl ()\/∃q,r= .inr q/\qR t (a:Int) q):=by
   intro B1 B2 u v m
   induction m with
   |zero=>
    intro k hk h7 hd;have f:k=5:=by omega
    subst f;refine⟨.inl (),⟨?_,?_⟩,.inl rfl⟩
    ·rw[A9];simp only[u,FI];rw[DZ (by omega) (by omega),Ae (by omega:¬((a+5:Nat):Int)<(a:Int)+5)];cases decide (((a+5:Nat):Int)<EU t)<;>rfl
    rw[A9];simp only[v,FQ];rw[Ae (by omega:¬((5:Nat):Int)<5)];rfl
   |succ m ih=>
    intro k hk h7 hd;rw[A9,A9 B2];simp only[u,v,FI,FQ];have f:k<5:=by omega
    rw[DZ (b:=5) (by omega) (by omega),Ab (by omega:((a+k:Nat):Int)<(a:Int)+5),Ab (by omega:(k:Int)<5),Ab (by omega:(a:Int)>=0),CX,CB (by omega) (by omega)];by_cases w:a+k<(L t).length
    ·rw[Ab (by omega:((a+k:Nat):Int)<((L t).length:Int)),Ab (by omega:(a:Int)<((L t).length:Int)-k)];have eak:ad (a:Int) (k:Int)=((a+k:Nat):Int):=by rw[DZ (by omega) (by omega)];omega
     simp only[Af,Aa,I1 t w,eak];have hx:=fM ((L t)[a+k]);have g:=TU (L t) a k w;have l:(((L t).drop a).take k).length=k:=by simp;omega
     have j:=S4 (((L t).drop a).take k) [(L t)[a+k]];rw[<-g,l]at j;have h8:=fL (((L t).drop a).take k);rw[l]at h8;have hp:=mA k f;generalize a4:(L t)[a+k]=x at hx g j;simp only[Gt,Nat.mul_zero,Tm]at j;have hw:IntKind.i64.wrap (x.toNat:Int)=x.toNat:=TE (by omega) (by omega);have a2:x.toNat %128*128^k<=127*268435456:=Nat.mul_le_mul (by omega) hp;have emul:ml ((x.toNat %128:Nat):Int) ((128^k:Nat):Int)=((x.toNat %128*128^k:Nat):Int):=by
      have ec:((x.toNat %128:Nat):Int)*((128^k:Nat):Int)=((x.toNat %128*128^k:Nat):Int):=by norm_cast
      rw[W7 (by rw[ec];omega) (by rw[ec];omega),ec]
     have enew:ad (((Gt (((L t).drop a).take k):Nat)):Int) ((x.toNat %128*128^k:Nat):Int)=((Gt (((L t).drop a).take (k+1)):Nat):Int):=by
      rw[DZ (by omega) (by omega),j,Nat.mul_comm (128^k)];omega
     rw[hw,oN,oU _ k (by omega) f];simp only[Aa,emul,enew];by_cases o:x.toNat<128
     ·rw[Ab (by omega:(x.toNat:Int)<128),Ae (by omega:¬(x.toNat:Int)>=128)];simp only[Af,Ac];have ek1:ad ((a+k:Nat):Int) 1=((a+k+1:Nat):Int):=ad1 (by omega);have c:=WM (((L t).drop a).take k) x hd o;rw[<-g]at c;have h9:(((L t).drop a).take k≠ [])↔0<k:=by
       rw[<-JC,l]
      rw[h9]at c;have y:sub t (a:Int) ((a+k+1:Nat):Int)=some (t.extract a (a+k+1)):=IQ t (by omega) (by omega);rw[ek1,y];by_cases a3:Gt (((L t).drop a).take (k+1))>1000000000
      ·rw[Ab (by omega:((Gt (((L t).drop a).take (k+1)):Nat):Int)>1000000000)];refine⟨.inr (0,0,false),⟨rfl,?_⟩,.inr ⟨_,rfl,.inl ⟨rfl,rfl,rfl⟩⟩⟩;cases(x.toNat:Int)==0
       ·rfl
       cases decide ((k:Int)>0)<;>rfl
      rw[Ae (by omega:¬((Gt (((L t).drop a).take (k+1)):Nat):Int)>1000000000)];obtain⟨s,a0,a1⟩:=LY (Gt (((L t).drop a).take (k+1))) (by omega);simp only[Ac,Aa,a0];have z:seq s (t.extract a (a+k+1))=decide (¬(x.toNat=0/\0<k)):=by
       rw[QU,a1,KS,show a+k+1-a=k+1 by omega,Ck,A4,A4];exact c
      rw[z];by_cases hz:x.toNat=0/\0<k
      ·rw[Ae (λe=>e hz)];refine⟨.inr (0,0,false),⟨rfl,?_⟩,.inr ⟨_,rfl,.inl ⟨rfl,rfl,rfl⟩⟩⟩;have:((x.toNat:Int)==0)=true:=by rw[hz.1];rfl
       rw[this,Ab (by omega:(k:Int)>0)];rfl
      rw[Ab hz];refine⟨.inr (((Gt (((L t).drop a).take (k+1)):Nat):Int),((a+k+1:Nat):Int),true),⟨rfl,?_⟩,.inr ⟨_,rfl,.inr ⟨rfl,a,a+k+1,_,rfl,rfl,rfl,by omega,by omega,by omega,?_⟩⟩⟩
      ·by_cases h4:x.toNat=0
       ·have:((x.toNat:Int)==0)=true:=by rw[h4];rfl
        rw[this,Ae (by omega:¬(k:Int)>0)];rfl
       have:((x.toNat:Int)==0)=false:=by simpa using h4
       rw[this];rfl
      rw[show a+k+1-a=k+1 by omega];exact c.2 hz
     rw[Ae (by omega:¬(x.toNat:Int)<128),Ab (by omega:(x.toNat:Int)>=128)];simp only[Af,Ac];have e1:ml ((128^k:Nat):Int) 128=((128^(k+1):Nat):Int):=by
      rw[W7 (by omega) (by omega),Nat.pow_succ];norm_cast
     have e2:ad ((a+k:Nat):Int) 1=((a+(k+1):Nat):Int):=ad1 (by omega);have e3:ad (k:Int) 1=((k+1:Nat):Int):=ad1 (by omega);rw[e1,e2,e3]
     exact ih (k+1) (by omega) (by omega) (by
      rw[g];intro d hd'
      rcases Al.1 hd' with hd'|hd'
      ·exact hd d hd'
      simp at hd';subst hd';omega)
    rw[Ae (by omega:¬((a+k:Nat):Int)<((L t).length:Int)),Ae (by omega:¬(a:Int)<((L t).length:Int)-k)];exact⟨.inl (),⟨rfl,rfl⟩,.inl rfl⟩
  obtain⟨r,⟨h1,h2⟩,h3⟩:=h6 (λs=>FI t (a:Int) s.1 s.2.1 s.2.2) (λs=>FQ t (a:Int) s.1 s.2) (λ_ _ _=>rfl) (λ_ _=>rfl) 5 0 rfl (by omega) (by simp);unfold Kp HM;have hw:BV (a:Int) 0 (EU t)=some true:=by
   unfold BV;rw[Ab (by omega:(a:Int)>=0),Af,CX,Ab (by omega)]
  rw[hw];simp only[Aa,Ap,Ac];simp only[VU,Gt,Nat.pow_zero,Tm]at h1 h2;rw[show((0:Nat):Int)=0 from rfl,show((1:Nat):Int)=1 from rfl]at h1;rw[show((0:Nat):Int)=0 from rfl]at h2;rw[h1,h2]
  rcases h3 with rfl|⟨q,rfl,h3⟩
  ·exact⟨_,rfl,rfl,.inl ⟨rfl,rfl,rfl⟩⟩
  exact⟨q,rfl,rfl,h3⟩
 have hf:=fails at_ (by omega) p;refine⟨(0,0,false),?_,hf,.inl ⟨rfl,rfl,rfl⟩⟩;unfold Kp;by_cases h0:0<=at_/\at_<=(L t).length
 ·have hw:BV at_ 0 (EU t)=some true:=by
   unfold BV;rw[Ab (by omega:at_>=0),Af,CX,Ab (by omega)]
  rw[hw];simp only[Aa,Ap,Ac];rw[A9];simp only[FI];rw[Ae (by rw[CX];omega:¬at_<EU t)];rfl
 have hw:BV at_ 0 (EU t)=some false:=by
  unfold BV;by_cases h1:at_>=0
  ·rw[Ab h1,Af,CX,Ae (by omega)]
  rw[Ae h1,Ac]
 rw[hw];rfl
theorem aK:Hp=BV:=rfl
variable {r n:Int} {R:List Int} {i s j:Nat} {α γ β:Type} {p:Nat->Bool} {l:List α} {x:α} {f:α->Int->Option Int}
theorem HA {i:Int} (h:gi l i=some x):0<=i/\l[i.toNat]?=some x:=by
 unfold gi at h;split at h
 ·exact⟨by assumption,h⟩
 cases h
theorem Va:Pb=I9:=by
 have h2:Ke=FK:=by
  funext x y;unfold Ke FK
  cases decide (y<ln x.Leaves)with
  |false=>rfl
  |true=>
   simp only[Af]
   cases gi x.Leaves y with
   |none=>rfl
   |some z=>rfl
 funext f;unfold Pb I9;have:Kf f=FL f:=by
  funext i;unfold Kf FL;rw[h2];rfl
 rw[this];rfl
def Ys (f:Flash):Prop:=f.Blocks.length<=1048576/\∀b∈f.Blocks,b.Leaves.length<=1048576
theorem UI (x a b:Int):BV x a b=some (decide (a<=x)&&decide (x<=b)):=by
 unfold BV;by_cases h:x>=a
 ·rw[Ab h,Af,BI]
 rw[Ae h,Ac,Bool.false_and]
theorem Sv (p:Page):∃v,LP p=some v/\Ru p=some v/\(v=true->(p.Kind=1\/p.Kind=2)/\(1<=p.Seq/\p.Seq<=1000000000)/\(1<=p.Tx/\p.Tx<=1000000000)/\(1<=p.Count/\p.Count<=9)/\(0<=p.Part/\p.Part<p.Count)/\EU p.Text<=90):=by
 unfold LP Ru;rw[aK];simp only[UI,Aa];by_cases h1:1<=p.Seq/\p.Seq<=1000000000
 ·by_cases h2:1<=p.Tx/\p.Tx<=1000000000
  ·by_cases h3:1<=p.Count/\p.Count<=9
   ·have e:sb p.Count 1=p.Count-1:=CB (by omega) (by omega);rw[e];by_cases h4:0<=p.Part/\p.Part<=p.Count-1
    ·by_cases h5:EU p.Text>90
     ·refine⟨false,?_,?_,by simp⟩
      ·cases hk:(decide (1<=p.Kind)&&decide (p.Kind<=2))<;>simp[h1,h2,h3,h4,h5]
      simp[h1,h2,h3,h4,h5]
     by_cases k2:p.Kind=2
     ·exact⟨true,by simp[h1,h2,h3,h4,h5,k2],by simp[h1,h2,h3,h4,h5,k2],λ_=>⟨.inr k2,h1,h2,h3,⟨h4.1,by omega⟩,by omega⟩⟩
     by_cases k1:p.Kind=1
     ·exact⟨p.Count==1,by simp[h1,h2,h3,h4,h5,k1],by simp[h1,h2,h3,h4,h5,k1],λ_=>⟨.inl k1,h1,h2,h3,⟨h4.1,by omega⟩,by omega⟩⟩
     have hk:(decide (1<=p.Kind)&&decide (p.Kind<=2))=false:=by
      rw[FC,AX,AX];omega
     have e1:(p.Kind==1)=false:=by simpa using k1
     have e2:(p.Kind==2)=false:=by simpa using k2
     exact⟨false,by simp[hk],by simp[h1,h2,h3,h4,h5,e1,e2],by simp⟩
    have e4:(decide (0<=p.Part)&&decide (p.Part<=p.Count-1))=false:=by
     rw[FC,AX,AX];omega
    refine⟨false,?_,?_,by simp⟩
    ·cases hk:(decide (1<=p.Kind)&&decide (p.Kind<=2))<;>simp[h1,h2,h3,e4]
    simp[h1,h2,h3,e4]
   have e3:(decide (1<=p.Count)&&decide (p.Count<=9))=false:=by
    rw[FC,AX,AX];omega
   refine⟨false,?_,?_,by simp⟩
   ·cases hk:(decide (1<=p.Kind)&&decide (p.Kind<=2))<;>simp[h1,h2,e3]
   simp[h1,h2,e3]
  have e2:(decide (1<=p.Tx)&&decide (p.Tx<=1000000000))=false:=by
   rw[FC,AX,AX];omega
  refine⟨false,?_,?_,by simp⟩
  ·cases hk:(decide (1<=p.Kind)&&decide (p.Kind<=2))<;>simp[h1,e2]
  simp[h1,e2]
 have e1:(decide (1<=p.Seq)&&decide (p.Seq<=1000000000))=false:=by
  rw[FC,AX,AX];omega
 refine⟨false,?_,?_,by simp⟩
 ·cases hk:(decide (1<=p.Kind)&&decide (p.Kind<=2))<;>simp[e1]
 simp[e1]
def W5:Page:=Page.mk 0 0 0 0 0 (bs [])
theorem FO (u:ByteArray) (a:Int) (hu:(L u).length<=20000) (ha:oI a):CU (DK.mk u a true)=some (0,DK.mk u a true):=by
 obtain⟨r,h1,_,_⟩:=GJ u a (by omega) ha;unfold CU;simp only[h1,Aa,Af]
theorem Jz {r:Int×Int×Bool} (u:ByteArray) (a:Int) (hu:(L u).length<=20000) (h:Kp u a=some r):CU (DK.mk u a false)=some (cond r.2.2 (r.1,DK.mk u r.2.1 false) (0,DK.mk u a true)):=by
 unfold CU;simp only[h,Aa,Ac];cases r.2.2<;>rfl
theorem MZ {a b:Nat} (l:List UInt8) (h:a<=b):l.drop a=(l.drop a).take (b-a)++l.drop b:=by
 have:=(Bj (b-a) (l.drop a)).symm;rw[DG,show a+(b-a)=b by omega]at this;exact this
theorem bD (p:Page) (u:ByteArray) (k:UInt8) (n1 n2 n3 n4:Nat) (hp:LP p=some true) (hk:p.Kind=(k.toNat:Int)) (h1:p.Seq=n1) (h2:p.Tx=n2) (h3:p.Part=n3) (h4:p.Count=n4) (b1:n1<=1000000000) (b2:n2<=1000000000) (b3:n3<=1000000000) (b4:n4<=1000000000) (hu:(L u).length<=20000) (e:L u=[k]++KV n1++KV n2++KV n3++KV n4++L p.Text):I8 p=Ih u:=by
 obtain⟨s1,q1,r1⟩:=LY n1 (by omega);obtain⟨s2,q2,r2⟩:=LY n2 (by omega);obtain⟨s3,q3,r3⟩:=LY n3 (by omega);obtain⟨s4,q4,r4⟩:=LY n4 (by omega);have hl:=Cq List.length e;simp only[Ah,Aj]at hl;have hb:OJ p.Kind=some (H3 [IntKind.u8.wrap p.Kind]):=rfl;have a:L (H3 [IntKind.u8.wrap p.Kind])=[k]:=by
  rw[LC,hk,IntKind.wrap_u8];have:=fM k;have e2:((k.toNat:Int) %256).toNat=k.toNat:=by omega
  simp only[BO,List.map_nil,e2,UInt8.ofNat_toNat]
 unfold I8;rw[hp];simp only[Aa,Ap,Ac,hb,h1,h2,h3,h4,q1,q2,q3,q4];rw[JK _ _ (by rw[a,r1];simp only[Aj];omega),Aa];rw[JK _ _ (by rw[Fu,a,r1,r2];simp only[Ah,Aj];omega),Aa];rw[JK _ _ (by rw[Fu,Fu,a,r1,r2,r3];simp only[Ah,Aj];omega),Aa];rw[JK _ _ (by rw[Fu,Fu,Fu,a,r1,r2,r3,r4];simp only[Ah,Aj];omega),Aa];rw[JK _ _ (by rw[Fu,Fu,Fu,Fu,a,r1,r2,r3,r4];simp only[Ah,Aj];omega),Aa];have:H3 [IntKind.u8.wrap p.Kind]++s1++s2++s3++s4++p.Text=u:=by
  apply R9;rw[Fu,Fu,Fu,Fu,Fu,a,r1,r2,r3,r4,e]
 rw[this]
 cases Ih u with
 |none=>rfl
 |some v=>rfl
theorem HR (t:ByteArray) (ht:(L t).length<=9223372036854775806):∃p ok,H6 t=some (p,ok)/\MP t=some (p,ok)/\(ok=false->p=W5)/\(ok=true->LP p=some true):=by
 obtain⟨u,uok,k,m,n,o⟩:=aW t ht;unfold H6 MP;rw[k,m];simp only[Aa];have o1:oI 1:=⟨by omega,by omega⟩
 cases uok with
 |false=>
  have:=o rfl;subst this;have hz:(L (bs [])).length<=20000:=by rw[Mi];simp
  simp only[AM,Af,Aa,FO _ _ hz o1];exact⟨W5,false,rfl,rfl,λ_=>rfl,by simp⟩
 |true=>
  obtain⟨f,v,hv,q⟩:=n rfl;simp only[Ap,Ac,Aa];by_cases he:(L u).length<1
  ·have h:seq u (bs [])=true:=by
    rw[QU,A4,Mi];exact Ay (by omega)
   rw[Ab (by rw[CX];omega:EU u<1),h];simp only[Af,FO _ _ f o1,Aa];exact⟨W5,false,rfl,rfl,λ_=>rfl,by simp⟩
  have h:seq u (bs [])=false:=by
   rw[QU,AX,Mi];intro e;rw[e]at he;simp at he
  rw[Ae (by rw[CX];omega:¬EU u<1),h];simp only[Ac];have four_:∀(B:Int×Int×Int×Int×Int×Int->Option ((Int×Int×Int×Int×Int×Int)⊕(Int×Int×Int×Int×Int)⊕(Page×Bool))),(∀x y a b c d,B (x,y,a,b,c,d)=D7 (u,true) x y a b c d)->
    ∃(a:Int) (m1 m2 m3 m4:Int) (bad:Bool),(∃c1 c2 c3,CU (DK.mk u 1 false)=some (m1,c1)/\CU c1=some (m2,c2)/\CU c2=some (m3,c3)/\CU c3=some (m4,DK.mk u a bad))/\
     Aq B (1,0,0,0,0,0)=some (bif bad then .inr (W5,false)else .inl (a,m1,m2,m3,m4))/\(bad=false->∃(a1 a2 a3 a4 n1 n2 n3 n4:Nat),m1=n1/\m2=n2/\m3=n3/\m4=n4/\a=a4/\1<a1/\a1<a2/\a2<a3/\a3<a4/\a4<=(L u).length/\n1<=1000000000/\n2<=1000000000/\n3<=1000000000/\n4<=1000000000/\
      KV n1=((L u).drop 1).take (a1-1)/\KV n2=((L u).drop a1).take (a2-a1)/\KV n3=((L u).drop a2).take (a3-a2)/\KV n4=((L u).drop a3).take (a4-a3)):=by
   intro B hB;obtain⟨r1,p1,q1,w1⟩:=GJ u 1 (by omega) o1;have g1:=Jz u 1 f p1;rw[A9,hB];unfold D7;rw[Ab (by omega:(0:Int)<4),Af,q1,Aa]
   rcases w1 with⟨w1,w2,w3⟩|⟨w1,a0',a1,n1,z0,z1,z2,z3,z4,z5,z6⟩
   ·rw[w1]at g1⊢;exact⟨1,0,0,0,0,true,⟨_,_,_,g1,FO u 1 f o1,FO u 1 f o1,FO u 1 f o1⟩,rfl,by simp⟩
   have ea0:a0'=1:=by omega
   subst ea0;rw[w1]at g1⊢;have x1:oI r1.2.1:=⟨by omega,by omega⟩;simp only[Ap,Ac,Af]at g1⊢;rw[show((0:Int)==0)=true from rfl,Af,show ad 0 1=1 from ad1 (i:=0) (by omega)];simp only;obtain⟨r2,p2,q2,y1⟩:=GJ u r1.2.1 (by omega) x1;have g2:=Jz u r1.2.1 f p2;rw[A9,hB];unfold D7;rw[Ab (by omega:(1:Int)<4),Af,q2,Aa]
   rcases y1 with⟨y1,_,_⟩|⟨y1,b0,a2,n2,y2,y3,y4,y5,y6,y7,y8⟩
   ·rw[y1]at g2⊢;exact⟨r1.2.1,r1.1,0,0,0,true,⟨_,_,_,g1,g2,FO u _ f x1,FO u _ f x1⟩,rfl,by simp⟩
   have eb:b0=a1:=by omega
   subst eb;rw[y1]at g2⊢;have x2:oI r2.2.1:=⟨by omega,by omega⟩;simp only[Ap,Ac,Af]at g2⊢;rw[show((1:Int)==0)=false from rfl,Ac,show((1:Int)==1)=true from rfl,Af,show ad 1 1=2 from ad1 (i:=1) (by omega)];simp only;obtain⟨r3,p3,q3,k1⟩:=GJ u r2.2.1 (by omega) x2;have g3:=Jz u r2.2.1 f p3;rw[A9,hB];unfold D7;rw[Ab (by omega:(2:Int)<4),Af,q3,Aa]
   rcases k1 with⟨k1,_,_⟩|⟨k1,c0,a3,n3,k2,k3,k4,k5,k6,k7,k8⟩
   ·rw[k1]at g3⊢;exact⟨r2.2.1,r1.1,r2.1,0,0,true,⟨_,_,_,g1,g2,g3,FO u _ f x2⟩,rfl,by simp⟩
   have ec:c0=a2:=by omega
   subst ec;rw[k1]at g3⊢;have x3:oI r3.2.1:=⟨by omega,by omega⟩;simp only[Ap,Ac,Af]at g3⊢;rw[show((2:Int)==0)=false from rfl,Ac,show((2:Int)==1)=false from rfl,Ac,show((2:Int)==2)=true from rfl,Af,show ad 2 1=3 from ad1 (i:=2) (by omega)];simp only;obtain⟨r4,p4,q4,l1⟩:=GJ u r3.2.1 (by omega) x3;have g4:=Jz u r3.2.1 f p4;rw[A9,hB];unfold D7;rw[Ab (by omega:(3:Int)<4),Af,q4,Aa]
   rcases l1 with⟨l1,_,_⟩|⟨l1,d0,a4,n4,l2,l3,l4,l5,l6,l7,l8⟩
   ·rw[l1]at g4⊢;exact⟨r3.2.1,r1.1,r2.1,r3.1,0,true,⟨_,_,_,g1,g2,g3,g4⟩,rfl,by simp⟩
   have ed:d0=a3:=by omega
   subst ed;rw[l1]at g4⊢;simp only[Ap,Ac,Af]at g4⊢;rw[show((3:Int)==0)=false from rfl,Ac,show((3:Int)==1)=false from rfl,Ac,show((3:Int)==2)=false from rfl,Ac,show((3:Int)==3)=true from rfl,Af,show ad 3 1=4 from ad1 (i:=3) (by omega)];simp only;rw[A9,hB];unfold D7;rw[Ae (by omega:¬(4:Int)<4),Ac];exact⟨r4.2.1,r1.1,r2.1,r3.1,r4.1,false,⟨_,_,_,g1,g2,g3,g4⟩,rfl,λ_=>⟨b0,c0,d0,a4,n1,n2,n3,n4,z2,y4,k4,l4,l3,z3,y5,k5,l5,l6,z5,y7,k7,l7,z6,y8,k8,l8⟩⟩
  obtain⟨a,m1,m2,m3,m4,bad,⟨c1,c2,c3,f1,f2,f3,f4⟩,f5,f6⟩:=four_ (λs:Int×Int×Int×Int×Int×Int=>D7 (u,true) s.1 s.2.1 s.2.2.1 s.2.2.2.1 s.2.2.2.2.1 s.2.2.2.2.2) (λ_ _ _ _ _ _=>rfl);rw[f5];simp only[f1,f2,f3,f4,Aa]
  cases bad with
  |true=>exact⟨W5,false,rfl,rfl,λ_=>rfl,by simp⟩
  |false=>
   obtain⟨a1,a2,a3,a4,n1,n2,n3,n4,rfl,rfl,rfl,rfl,rfl,i1,i2,i3,i4,i5,j1,j2,j3,j4,s1,s2,s3,s4⟩:=f6 rfl;simp only[Ac,Aa,B3];have r:sx u 0=some (((L u)[0]'(by omega)).toNat:Int):=I1 u (i:=0) (by omega);have j:sub u (a4:Int) (EU u)=some (u.extract a4 (L u).length):=by rw[CX];exact IQ u (by omega) (by omega)
   rw[r,j];simp only[Aa];have hk:=fM ((L u)[0]'(by omega));have hw:IntKind.i64.wrap (((L u)[0]'(by omega)).toNat:Int)=((L u)[0]'(by omega)).toNat:=TE (by omega) (by omega);rw[hw];obtain⟨po,po1,po2,_⟩:=Sv (Page.mk (((L u)[0]'(by omega)).toNat:Int) n1 n2 n3 n4 (u.extract a4 (L u).length));rw[po2];simp only[Aa]
   cases po with
   |false=>
    have:I8 (Page.mk (((L u)[0]'(by omega)).toNat:Int) n1 n2 n3 n4 (u.extract a4 (L u).length))=some (bs [],false):=by
     unfold I8;rw[po1];rfl
    rw[this];exact⟨W5,false,rfl,rfl,λ_=>rfl,by simp⟩
   |true=>
    have hT:L (u.extract a4 (L u).length)=(L u).drop a4:=by
     rw[KS];exact AT (by simp)
    have g:L u=[(L u)[0]'(by omega)]++KV n1++KV n2++KV n3++KV n4++L (u.extract a4 (L u).length):=by
     rw[hT,s1,s2,s3,s4];have h0:L u=[(L u)[0]'(by omega)]++(L u).drop 1:=by
      have:=BP (l:=L u) (i:=0) (by omega);simpa using this
     have d1:=MZ (L u) (a:=1) (b:=a1) (by omega);have d2:=MZ (L u) (a:=a1) (b:=a2) (by omega);have d3:=MZ (L u) (a:=a2) (b:=a3) (by omega);have d4:=MZ (L u) (a:=a3) (b:=a4) (by omega);simp only[Av];rw[<-d4,<-d3,<-d2,<-d1];exact h0
    rw[bD _ u ((L u)[0]'(by omega)) n1 n2 n3 n4 po1 rfl rfl rfl rfl rfl j1 j2 j3 j4 f g];obtain⟨v',hv',hs'⟩:=(WV u).2 f;rw[hv]at hv'
    injection hv' with hv'
    subst hv';rw[hs',Aa];have:seq (u++four v) t=true:=by rw[NK,A4];exact q.symm
    simp only[Ap,Ac,Aa,this];exact⟨_,true,rfl,rfl,by simp,λ_=>po1⟩
def Jf (x:Leaf):Nat:=x.Text.size
def Ef (x:Block):Nat:=zl Jf x.Leaves
def JE (x:Flash):Nat:=zl Ef x.Blocks
theorem iN (x:Leaf) (h:ZJ x):Cs Jf N5 x:=by
 intro left h0 h1;have hx:x.Text.size<=9223372036854775807:=h.2;have e:EU x.Text=(x.Text.size:Int):=rfl;unfold N5;rw[CB (by rw[e];omega) (by rw[e];omega),e];unfold Jf;by_cases hc:(x.Text.size:Int)<=left
 ·rw[Ae (by omega),Ac];exact⟨_,rfl,by rw[Ar hc]⟩
 rw[Ab (by omega),Af];exact⟨_,rfl,by rw[Au hc];omega⟩
theorem cK (l:List Leaf) (h:ol ZJ l):Cs (zl Jf) RL l:=
 HQ (LK Jf N5 l h.1 (λx hx=>iN x (h.2 x hx)) (λ_ _=>rfl) (λ_=>rfl))
theorem Cs.wrap {z:β->Nat} {g:β->Int->Option Int} {y:β} {z':α->Nat} (h:Cs z g y) (hz:z' x=z y) (hf:∀left,f x left=(g y left).bind λv=>bif decide (v<0)then some (-1)else some v):Cs z' f x:=by
 intro left h0 h1;rw[hz];obtain⟨v,h2,h3⟩:=h left h0 h1;rw[hf,h2,Aa];split at h3
 ·rename_i hc;rw[Ae (by omega),Ac];exact⟨_,rfl,by rw[Ar hc];exact h3⟩
 rename_i hc;rw[Ab h3,Af];exact⟨_,rfl,by rw[Au hc];omega⟩
theorem cN (x:Block) (h:Uy x):Cs Ef OB x:=Cs.wrap (cK x.Leaves h.2.2) rfl (λ_=>rfl)
theorem Zk (l:List Block) (h:ol Uy l):Cs (zl Ef) PN l:=
 HQ (LK Ef OB l h.1 (λx hx=>cN x (h.2 x hx)) (λ_ _=>rfl) (λ_=>rfl))
theorem cM (x:Flash) (h:dN x):Cs JE RN x:=Cs.wrap (Zk x.Blocks h) rfl (λ_=>rfl)
theorem bZ (l:List Leaf) (h:zl Jf l<=1048576):RH l=some l:=by
 have:=D9 (z:=Jf) (l:=l);exact Ji Qz l (by omega) (by omega) (λ_ _=>rfl) (λ_ _=>rfl) rfl
theorem cB (x:Block) (h:Ef x<=1048576):LF x=some x:=by
 unfold LF;rw[bZ _ h];rfl
theorem Zh (l:List Block) (h:zl Ef l<=1048576):PM l=some l:=by
 have:=D9 (z:=Ef) (l:=l);exact Ji LF l (by omega) (by omega) (λx hx=>cB x (by have:=JD (z:=Ef) hx;omega)) (λ_ _=>rfl) rfl
theorem cA (x:Flash) (h:JE x<=1048576):O8 x=some x:=by
 unfold O8;rw[Zh _ h];rfl
theorem jW (a b:Leaf):Ds (N9 a b) a b:=by
 cases a with
 |mk a1 a2=>
 cases b with
 |mk b1 b2=>
 have:JB (N9 (Leaf.mk a1 a2) (Leaf.mk b1 b2)) (a1=b1/\a2=b2/\True):=DP (by simp) (DP lF FY);simpa only[Ds,JB,Leaf.mk.injEq,Ng]using this
theorem eK (a b:List Leaf) (h:a.length<=1048576):Ds (RQ a b) a b:=
 Hu N9 a b (by omega) (λx _ y _=>jW x y) (λ_=>rfl) rfl
theorem eO (a b:Block) (h:Ef a<=1048576):Ds (LI a b) a b:=by
 cases a with
 |mk a1 a2 a3=>
 cases b with
 |mk b1 b2 b3=>
 have hl:=D9 (z:=Jf) (l:=a3);have:JB (LI (Block.mk a1 a2 a3) (Block.mk b1 b2 b3)) (a1=b1/\a2=b2/\a3=b3/\True):=DP (by cases a1<;>cases b1<;>simp) (DP (by simp) (Ec (eK a3 b3 (by unfold Ef at h;simp only at h;omega)) FY));simpa only[Ds,JB,Block.mk.injEq,Ng]using this
theorem aN (a b:List Block) (h:zl Ef a<=1048576):Ds (PP a b) a b:=by
 have:=D9 (z:=Ef) (l:=a);exact Hu LI a b (by omega) (λx hx y _=>eO x y (by have:=JD (z:=Ef) hx;omega)) (λ_=>rfl) rfl
theorem eN (a b:Flash) (h:JE a<=1048576):Ds (OE a b) a b:=by
 cases a with
 |mk a1=>
 cases b with
 |mk b1=>
 have:JB (OE (Flash.mk a1) (Flash.mk b1)) (a1=b1/\True):=Ec (aN a1 b1 h) FY;simpa only[Ds,JB,Flash.mk.injEq,Ng]using this
theorem qA (f:Flash) (h:JE f<=1048576):Ys f/\∀b∈f.Blocks,∀x∈b.Leaves,(L x.Text).length<=1048576:=by
 have h1:=D9 (z:=Ef) (l:=f.Blocks);unfold JE at h;refine⟨⟨by omega,λb hb=>?_⟩,λb hb x hx=>?_⟩
 ·have h2:=JD (z:=Ef) hb;have h3:=D9 (z:=Jf) (l:=b.Leaves);have e:Ef b=zl Jf b.Leaves:=rfl;omega
 have h2:=JD (z:=Ef) hb;have h3:=JD (z:=Jf) hx;have e:Ef b=zl Jf b.Leaves:=rfl;have e2:Jf x=x.Text.size:=rfl;rw[Sy];omega
def nl (l:List Block):Nat:=(l.map λb=>b.Leaves.length).sum
theorem uC (f:Flash):nl f.Blocks<=JE f:=by
 unfold nl JE zl;have:∀l:List Block,(l.map λb=>b.Leaves.length).sum<=(l.map Ef).sum:=by
  intro l
  induction l with
  |nil=>simp
  |cons b l ih=>
   have:=D9 (z:=Jf) (l:=b.Leaves);have e:Ef b=zl Jf b.Leaves:=rfl;simp only[BO,JN];omega
 have:=this f.Blocks;omega
def Oh (f:Flash) (y:AE):Prop:=∃b x,gi f.Blocks y.Block=some b/\gi b.Leaves y.Leaf=some x/\(x.Is==1)=true/\H6 x.Text=some (y.Page,true)
theorem SY {k:Nat} {b:Block} {x:Leaf} (f:Flash) (hf:Ys f) (hb:f.Blocks[i]?=some b) (hx:b.Leaves[k]?=some x):M1 f i k=some (cond (x.Is==1) (x.Text,true) (bs [],false)):=by
 have h1:=(Ag.1 hb).1;have h2:=(Ag.1 hx).1;have h3:=hf.1;have h4:=hf.2 b (A6 hb);unfold M1;rw[CB (by rw[BT];omega) (by rw[BT];omega),UI,BT,Ab (by omega:(0:Int)<=(i:Int)),Ab (by omega:(i:Int)<=(f.Blocks.length:Int)-1)];simp only[Aa,Gs,Ap,Ac,AA,hb];rw[CB (by rw[BT];omega) (by rw[BT];omega),UI,BT,Ab (by omega:(0:Int)<=(k:Int)),Ab (by omega:(k:Int)<=(b.Leaves.length:Int)-1)];simp only[Aa,Gs,Ap,Ac,hx]
 cases h:x.Is==1 with
 |true=>
  have:(x.Is !=1)=false:=by simp[bne,h]
  simp[this]
 |false=>
  have:(x.Is !=1)=true:=by simp[bne,h]
  simp[this]
theorem Qm (f:Flash) (hf:Ys f) (hT:∀b∈f.Blocks,∀x∈b.Leaves,(L x.Text).length<=1048576) (hn:nl f.Blocks<=1048576):
  ∃X,Aq (λs:List AE×Int=>D5 f s.1 s.2) ([],0)=some X/\Aq (λs:Int×List AE=>GU f s.1 s.2) (0,[])=some X/\X.length<=nl f.Blocks/\∀y∈X,Oh f y:=by
 refine LW (body:=λs:List AE×Int=>D5 f s.1 s.2) (body':=λs:Int×List AE=>GU f s.1 s.2) (λs i=>(s,i)) (λs i=>(i,s)) f.Blocks.length (λi a=>a.length<=((f.Blocks.take i).map λb=>b.Leaves.length).sum/\∀y∈a,Oh f y) (λX=>X.length<=nl f.Blocks/\∀y∈X,Oh f y) ?_ ?_ (s:=[]) ⟨by simp,by simp⟩
 ·intro a i hi ⟨c,d⟩;have hb:f.Blocks[i]?=some f.Blocks[i]:=Ad hi;have hm:f.Blocks[i]∈f.Blocks:=Bm _;have j:=Zn (λb:Block=>b.Leaves.length) f.Blocks i hi;have l:=Zm (λb:Block=>b.Leaves.length) f.Blocks (i+1);unfold nl at hn;have m:=hf.1;refine .inl ?_;simp only[D5,GU,AD,Ab hi,Af,AA,hb,Aa];obtain⟨u,q1,q2,q3⟩:=LW (body:=λs:List AE×Int=>ED f (i:Int) s.1 s.2) (body':=λs:Int×List AE=>Io (i:Int) f.Blocks[i] s.1 s.2) (λs i=>(s,i)) (λs i=>(i,s)) f.Blocks[i].Leaves.length (λk u=>u.length<=a.length+k/\∀y∈u,Oh f y) (λu=>u.length<=a.length+f.Blocks[i].Leaves.length/\∀y∈u,Oh f y)
   (λu k hk hu=>by
    have hx:f.Blocks[i].Leaves[k]?=some f.Blocks[i].Leaves[k]:=Ad hk;have g:f.Blocks[i].Leaves[k]∈f.Blocks[i].Leaves:=Bm _;have n:=hf.2 _ hm
    have h:∀y:AE,ap 72 u [y]=some (u++ [y]):=λy=>C4 (by simp only[Aj];omega)
    refine .inl ?_;obtain⟨p,ok,r1,r2,r3,r4⟩:=HR f.Blocks[i].Leaves[k].Text (by have:=hT _ hm _ g;omega);simp only[ED,Io,AD,Ab hk,Af,AA,hb,hx,Aa,SY f hf hb hx,r2,h];have o:=hu.1
    cases e:f.Blocks[i].Leaves[k].Is==1 with
    |false=>
     obtain⟨p',ok',t1,_⟩:=HR (bs []) (by rw[Mi];simp);simp only[Ac,Aa,t1];refine⟨u,by rw[ad1 (by omega)],by cases ok<;>(simp only[Af,Ac,Aa];rw[ad1 (by omega)]),by omega,hu.2⟩
    |true=>
     simp only[Af,Aa,r1]
     cases ok with
     |false=>exact⟨u,by simp only[Ac];rw[ad1 (by omega)],by simp only[Ac,Aa];rw[ad1 (by omega)],by omega,hu.2⟩
     |true=>
      refine⟨u++ [AE.mk i k p],by simp only[Af];rw[ad1 (by omega)],by simp only[Af,Aa];rw[ad1 (by omega)],by simp only[Ah,Aj];omega,λy hy=>?_⟩
      rcases Al.1 hy with hy|hy
      ·exact hu.2 y hy
      rw[A7]at hy;subst hy
      exact⟨_,_,by simp only[AA];exact hb,by simp only[AA];exact hx,e,r1⟩)
   (λu hu=>⟨u,by simp only[ED,AA,hb,Aa,AD,An,As,Ac],by simp only[Io,AD,An,As,Ac],hu⟩) (s:=a) ⟨by omega,d⟩
  rw[q1,q2];simp only[Aa];rw[ad1 (by omega)];exact⟨u,rfl,rfl,by omega,q3.2⟩
 intro a ⟨c,d⟩;refine⟨a,by simp only[D5,AD,An,As,Ac],by simp only[GU,AD,An,As,Ac],?_,d⟩;rw[Br]at c;exact c
theorem Yl {l:List γ} {i j:Int} {x y:γ} (h:gi l j=some y):∃z,gi (si l i x) j=some z:=by
 obtain⟨h1,h2⟩:=HA h;have:=(Ag.1 h2).1;unfold gi;rw[Ar h1];exact⟨_,Ad (by simp only[si,EL];exact this)⟩
theorem cQ (l:List AE) (k:Int):Ii l k=(Ba (KU Bz) 0 k l).map (Sum.map (λs=>(s.2,s.1)) id):=by
 unfold Ii Ba kI cP
 cases hk:decide (k>0)with
 |false=>rfl
 |true=>
  simp only[Af]
  cases h1:gi l (sb k 1)with
  |none=>cases h2:gi l k<;>simp
  |some x=>
   cases h2:gi l k with
   |none=>simp
   |some y=>
    simp only[Aa];have e:(decide (x.Page.Seq>y.Page.Seq))=KU Bz y x:=rfl;rw[e]
    cases KU Bz y x with
    |false=>rfl
    |true=>
     simp only[Af,h1,h2,Aa];obtain⟨z,hz⟩:=Yl (i:=k) (x:=x) h1;rw[hz];rfl
theorem oO {l l':List γ} {i j:Int} (h:cP l i j=some l'):l'.length=l.length:=by
 unfold cP at h;obtain⟨x,_,h⟩:=Ao.1 h;obtain⟨y,_,h⟩:=Ao.1 h
 injection h with h
 subst h;simp[si]
theorem pU {a j:Int} {l r:List AE} (h:Aq (λs:Int×List AE=>Ba (KU Bz) a s.1 s.2) (j,l)=some r):r.length=l.length:=by
 refine jG (λs:Int×List AE=>s.2.length=l.length) (λr=>r.length=l.length) ?_ ?_ (s:=(j,l)) rfl h
 ·rintro⟨j,m⟩ s' hm hb;simp only[Ba]at hb;obtain⟨c,_,hb⟩:=Ao.1 hb
  cases c with
  |false=>cases hb
  |true=>
   simp only[Af]at hb;obtain⟨m',h1,hb⟩:=Ao.1 hb
   injection hb with hb
   injection hb with hb
   subst hb;exact(oO h1).trans hm
 rintro⟨j,m⟩ b hm hb;simp only[Ba]at hb;obtain⟨c,_,hb⟩:=Ao.1 hb
 cases c with
 |false=>
  simp only[Ac]at hb
  injection hb with hb
  injection hb with hb
  subst hb;exact hm
 |true=>
  simp only[Af]at hb;obtain⟨m',h1,hb⟩:=Ao.1 hb;cases hb
theorem Vu (f:Flash) (hf:Ys f) (hT:∀b∈f.Blocks,∀x∈b.Leaves,(L x.Text).length<=1048576) (hn:nl f.Blocks<=1048576):
  ∃r,I7 f=some r/\Ge f=some r/\r.length<=nl f.Blocks/\(∀y∈r,Oh f y)/\srt Bz r:=by
 obtain⟨X,h1,h2,h3,h4⟩:=Qm f hf hT hn;obtain⟨r,h5,h6,h7⟩:=Wo Bz X (by omega);obtain⟨r',h8,h9,h10⟩:=GR Bz [] X [] (by simp only[Bf];omega);have hr:r'=r:=PS Bz h9 h6 (λk=>by rw[h7 k,<-h10 k]);subst hr;refine⟨r',?_,?_,?_,?_,h6⟩
 ·unfold I7;rw[h1,Aa];simp only[AC,Aw,Bf,Gk]at h8;unfold B5 at h8;rw[show ad ((0:Nat):Int) 1=1 from rfl]at h8;have hc:Aq (λs:List AE×Int=>Ij s.1 s.2) (X,1)=Aq (λs:Int×List AE=>Bh (KU Bz) ((0:Nat):Int) (X.length:Int) s.1 s.2) (1,X):=by
   refine ZO (body:=λs:Int×List AE=>Bh (KU Bz) ((0:Nat):Int) (X.length:Int) s.1 s.2) (body':=λs:List AE×Int=>Ij s.1 s.2) (λs=>(s.2,s.1)) (λs=>s.2.length=X.length) ?_ ?_ (1,X) rfl
   ·rintro⟨j,m⟩ hm;simp only at hm;simp only[Ij,Bh,BT,hm]
    cases decide (j<(X.length:Int))with
    |false=>rfl
    |true=>
     simp only[Af];rw[dS (body:=λs:Int×List AE=>Ba (KU Bz) ((0:Nat):Int) s.1 s.2) (body':=λs:List AE×Int=>Ii s.1 s.2) (λs=>(s.2,s.1)) (λs=>cQ s.2 s.1) (j,m)];cases Aq (λs:Int×List AE=>Ba (KU Bz) ((0:Nat):Int) s.1 s.2) (j,m)<;>rfl
   rintro⟨j,m⟩ s' hm hb;simp only[Bh]at hb
   cases hc:decide (j<(X.length:Int))with
   |false=>rw[hc,Ac]at hb;cases hb
   |true=>
    rw[hc,Af]at hb;obtain⟨m',h1,hb⟩:=Ao.1 hb
    injection hb with hb
    injection hb with hb
    subst hb;exact(pU h1).trans hm
  rw[hc];exact h8
 ·unfold Ge;rw[h2,Aa,h5];rfl
 ·rw[<-h7.len];exact h3
 exact λy hy=>h4 y ((h7.mem).1 hy)
theorem KG {S:Type} {body:S->Option (S⊕List α)} (a:List α->Int->S) (g:Nat->α->α) (l0:List α) (h1:∀(i:Nat) (l:List α) x,l.length=l0.length->l[i]?=some x->l0[i]?=some x->body (a l (i:Nat))=some (.inl (a (l.set i (g i x)) ((i+1:Nat):Int)))) (h2:∀l:List α,l.length=l0.length->body (a l (l0.length:Nat))=some (.inr l)):Aq body (a l0 0)=some (l0.mapIdx g):=by
 obtain⟨b,h3,h4⟩:=Bx (body:=body) a l0.length (λi l=>l.length=l0.length/\∀j,l[j]?=if j<i then(l0[j]?).map (g j)else l0[j]?) (λb=>b=l0.mapIdx g)
  (λl i hi hs=>by
   obtain⟨hl,hs⟩:=hs;have c:l0[i]?=some l0[i]:=Ad hi;have hx:l[i]?=some l0[i]:=by rw[hs,Au (An _),c]
   refine .inl ⟨_,h1 i l _ hl hx c,by rw[EL,hl],λj=>?_⟩;rw[BY];by_cases e:i=j
   ·subst e;rw[Ar rfl,Ar (by omega),Ar (by omega),c];rfl
   rw[Au e,hs];by_cases h:j<i
   ·rw[Ar h,Ar (by omega)]
   rw[Au h,Au (by omega)])
  (λl hs=>⟨l,h2 l hs.1,by
   apply Cj;intro j;rw[hs.2,List.getElem?_mapIdx];by_cases h:j<l0.length
   ·rw[Ar h]
   rw[Au h,Dq (by omega)]
   rfl⟩) (s:=l0) ⟨rfl,λj=>by rw[Au (by omega)]⟩
 rw[h3,h4]
abbrev Ks:=List Knot
def dk:Knot:=Knot.mk true []
def Bo (K:Ks) (i:Int):Knot:=(gi K i).getD dk
def HT (k:Knot) (j:Nat):Int:=(k.Kids[j]?).getD 0
def Ma (K:Ks) (i:Nat) (leaf:Bool) (n:Int):Bool:=bif leaf then decide (0<=n)else(n== -1||(decide (0<=n/\n<=(i:Int)-1)&&(Bo K n).Leaf))
def Cr (K:Ks):Bool:=K.zipIdx.all λz=>z.1.Kids.length==4&&z.1.Kids.all (Ma K z.2 z.1.Leaf)
def CC (K:Ks) (r:Int):Bool:=r== -1||(decide (0<=r/\r<(K.length:Int))&&!(Bo K r).Leaf)
def O1 (K:Ks) (root:Int) (s:Nat):Int:=if root<0 then 0 else if HT (Bo K root) (s/4)<0 then 0 else HT (Bo K (HT (Bo K root) (s/4))) (s %4)
def G6 (K:Ks) (root:Int):List Int:=(List.range 16).map (O1 K root)
variable {K X:Ks}
theorem LZ (h:i<K.length):Bo K (i:Int)=K[i]:=by
 unfold Bo;rw[AA,Ad h];rfl
theorem FR {i:Int} (h0:0<=i) (h:i<(K.length:Int)):gi K i=some (Bo K i):=by
 unfold Bo;rw[SM h0 h];rfl
theorem IE (x a b:Int):BV x a b=some (decide (a<=x/\x<=b)):=by
 rw[UI];congr 1;rw[Ck];simp
theorem FU:Cr K=true↔∀i:Nat,i<K.length->(Bo K (i:Int)).Kids.length=4/\∀n∈(Bo K (i:Int)).Kids,Ma K i (Bo K (i:Int)).Leaf n=true:=by
 unfold Cr;rw[Ca];constructor
 ·intro h i hi;have:=h (K[i],i) (by rw[HC];exact Ad hi);rw[Ai,Ca]at this;rw[LZ hi];exact⟨by simpa using this.1,this.2⟩
 intro h z hz;rw[HC]at hz;obtain⟨a,hz⟩:=Ag.1 hz;have:=h z.2 a;rw[LZ a,hz]at this;rw[Ai,Ca];exact⟨by simpa using this.1,this.2⟩
theorem FM (a:Arena) (ha:a.Knots.length<=1048576):Fi a=some (Cr a.Knots):=by
 unfold Fi;have h:=KH (body:=λs:Int=>Do a s) a.Knots (λi k=>k.Kids.length==4&&k.Kids.all (Ma a.Knots i k.Leaf)) (.inr false) (.inl ()) (by omega)
  (λi k hk=>by
   have hi:=(Ag.1 hk).1;simp only[Do,AD,Ab hi,Af,AA,hk,Aa];by_cases h4:k.Kids.length=4
   ·have e1:(ln k.Kids !=4)=false:=by simp[ln,h4]
    have e2:(k.Kids.length==4)=true:=by simp[h4]
    simp only[e1,Ac,e2,BI];have q:=KH (body:=λs:Int=>Dn a (i:Int) k s) k.Kids (λ_ n=>Ma a.Knots i k.Leaf n) (.inr (.inr (.inr false))) (.inl ()) (by omega)
     (λj n hn=>by
      have hj:=(Ag.1 hn).1;simp only[Dn];rw[Ab (by omega:(j:Int)<4),Af,AA,hn];simp only[Aa,Ma]
      cases hl:k.Leaf with
      |true=>
       simp only[Af,Ap,Ac];by_cases h0:n<0
       ·rw[Ab h0,Ae (by omega:¬0<=n)];rfl
       rw[Ae h0,Ab (by omega:0<=n)];simp only[Ac,Aa,Af];rw[ad1 (by omega)]
      |false=>
       simp only[Ac,AM,Af];by_cases h1:n= -1
       ·subst h1;simp only[bne_self_eq_false,Ac,Aa,BEq.rfl,fJ,Af];rw[ad1 (by omega)]
       have e3:(n != -1)=true:=by simp[h1]
       have e4:(n== -1)=false:=by simp[h1]
       rw[e3,e4];simp only[Af,HS];rw[CB (by omega) (by omega),IE];simp only[Aa];by_cases h2:0<=n/\n<=(i:Int)-1
       ·rw[Ab h2];simp only[Ap,Ac];rw[FR h2.1 (by omega)];simp only[Aa,BI]
        cases(Bo a.Knots n).Leaf with
        |true=>simp only[Ap,Ac,Af];rw[ad1 (by omega)]
        |false=>rfl
       rw[Ae h2];rfl)
     (by simp only[Dn];rw[Ae (by omega:¬((k.Kids.length:Nat):Int)<4),Ac])
    rw[q];have hz:(k.Kids.zipIdx.all λz=>Ma a.Knots i k.Leaf z.1)=k.Kids.all (Ma a.Knots i k.Leaf):=by
     rw[show(λz:Int×Nat=>Ma a.Knots i k.Leaf z.1)=(Ma a.Knots i k.Leaf)∘Prod.fst from rfl,<-List.all_map];congr 1;simp
    simp only[Aa];rw[hz]
    cases k.Kids.all (Ma a.Knots i k.Leaf)with
    |true=>simp only[Af,B3];rw[ad1 (by omega)]
    |false=>rfl
   have e1:(ln k.Kids !=4)=true:=by simp[ln];omega
   have e2:(k.Kids.length==4)=false:=by simp[h4]
   simp only[e1,Af,e2,Bool.false_and,Ac])
  (by simp only[Do,AD,An,As,Ac])
 rw[h];unfold Cr;simp only[Aa];cases(a.Knots.zipIdx.all λz=>z.1.Kids.length==4&&z.1.Kids.all (Ma a.Knots z.2 z.1.Leaf))<;>rfl
theorem JX (a:Arena) (ha:a.Knots.length<=1048576) (r:Int):FZ a r=some (CC a.Knots r):=by
 unfold FZ CC
 cases hr:(r== -1)with
 |true=>rfl
 |false=>
  simp only[Ac,HS];rw[BT,CB (by omega) (by omega),IE];simp only[Aa];by_cases h:0<=r/\r<(a.Knots.length:Int)
  ·rw[Ab h,Ab (by omega:0<=r/\r<=(a.Knots.length:Int)-1)];simp only[Af,BI];rw[FR h.1 h.2];rfl
  rw[Ae h,Ae (by omega:¬(0<=r/\r<=(a.Knots.length:Int)-1))];rfl
theorem BE (h:CC K r=true):r= -1\/(0<=r/\r<(K.length:Int)/\(Bo K r).Leaf=false):=by
 unfold CC at h;simp only[BM,DF,Ai,A4,CH]at h
 rcases h with h|h
 ·exact .inl h
 exact .inr ⟨h.1.1,h.1.2,h.2⟩
theorem DL (hK:Cr K=true) (h0:0<=r) (h1:r<(K.length:Int)):(Bo K r).Kids.length=4/\∀j,j<4->(Bo K r).Kids[j]?=some (HT (Bo K r) j)/\Ma K r.toNat (Bo K r).Leaf (HT (Bo K r) j)=true:=by
 have:=FU.1 hK r.toNat (by omega);rw[show((r.toNat:Nat):Int)=r by omega]at this;refine⟨this.1,λj hj=>?_⟩;have a:j<(Bo K r).Kids.length:=by omega
 have e:(Bo K r).Kids[j]?=some (HT (Bo K r) j):=by unfold HT;rw[Ad a];rfl
 exact⟨e,this.2 _ (A6 e)⟩
theorem Eq (hK:Cr K=true) (h0:0<=r) (h1:r<(K.length:Int)) (hl:(Bo K r).Leaf=false) (hj:j<4):HT (Bo K r) j= -1\/(0<=HT (Bo K r) j/\HT (Bo K r) j<r/\(Bo K (HT (Bo K r) j)).Leaf=true):=by
 have:=((DL hK h0 h1).2 j hj).2;rw[hl]at this;simp only[Ma,Ac,BM,DF,Ai,A4]at this
 rcases this with h|⟨⟨h2,h3⟩,h4⟩
 ·exact .inl h
 exact .inr ⟨h2,by omega,h4⟩
theorem mU (hK:Cr K=true) (h0:0<=r) (h1:r<(K.length:Int)) (hl:(Bo K r).Leaf=true) (hj:j<4):0<=HT (Bo K r) j:=by
 have:=((DL hK h0 h1).2 j hj).2;rw[hl]at this;simpa[Ma]using this
theorem rX (h:s<16):qu (s:Int) 4=((s/4:Nat):Int):=by
 unfold qu;rw[show Int.tdiv (s:Int) 4=((s/4:Nat):Int) by rw[Int.tdiv_eq_ediv_of_nonneg (by omega)];omega];exact TE (by omega) (by omega)
theorem kR:Int.tmod (s:Int) 4=((s %4:Nat):Int):=by
 rw[Int.tmod_eq_emod_of_nonneg (by omega)];omega
theorem SB (a:Arena) (hK:Cr a.Knots=true) (hr:CC a.Knots r=true) (hs:s<16):K2 a r (s:Int)=some (O1 a.Knots r s):=by
 unfold K2 O1
 rcases BE hr with rfl|⟨h0,h1,hl⟩
 ·rfl
 rw[Ae (by omega:¬r<0),Au (by omega),Ac,FR h0 h1];simp only[Aa];rw[rX hs,AA,((DL hK h0 h1).2 (s/4) (by omega)).1];simp only[Aa]
 rcases Eq hK h0 h1 hl (show s/4<4 by omega)with e|⟨e1,e2,e3⟩
 ·rw[e];rfl
 rw[Ae (by omega),Au (by omega),Ac,FR e1 (by omega)];simp only[Aa];rw[kR,AA,((DL hK e1 (by omega)).2 (s %4) (by omega)).1];rfl
theorem IK {by_:Nat} (h:l.length*by_<=140737488355328):ap by_ [] l=some l:=by
 rw[C4 (by simpa using h),AC]
def nS (K:Ks):Prop:=K.length<=1048576/\∀k∈K,k.Kids.length<=1048576
theorem Kj (hK:Cr K=true) (h:K.length<=1048576):nS K:=by
 refine⟨h,λk hk=>?_⟩;obtain⟨i,hi,rfl⟩:=AI hk;have:=(FU.1 hK i hi).1;rw[LZ hi]at this;omega
theorem QY (a:Arena) (h:nS a.Knots):Kn a=some a:=by
 unfold Kn;have h1:=UD (body:=λs:Int×List Knot=>Ib a s.1 s.2) a.Knots (λk=>k)
  (λi k b hk ho=>by
   have hi:=(Ag.1 hk).1;have hm:=h.2 k (A6 hk);have:=h.1;simp only[Ib,AD,Ab hi,Af,AA,hk,Aa];rw[IK (by omega)];simp only[Aa];rw[C4 (by simp;omega)];simp only[Aa]
   rw[ad1 (by omega)])
  (λb=>by simp only[Ib,AD,An,As,Ac])
 rw[h1];simp only[Aa,List.map_id']
theorem FG (s:Store) (h:nS s.Arena.Knots) (hv:s.Vols.length<=1048576):D0 s=some s:=by
 unfold D0;rw[IK (by omega),QY _ h];rfl
def Lr (K:Ks) (r:Int) (s:Nat) (n:Int):List Int:=(if r<0 then [0,0,0,0]else if HT (Bo K r) (s/4)<0 then [0,0,0,0]else(Bo K (HT (Bo K r) (s/4))).Kids).set (s %4) n
def Po (K:Ks) (r:Int) (s:Nat):List Int:=(if r<0 then [-1,-1,-1,-1]else(Bo K r).Kids).set (s/4) (K.length:Int)
def Hn (K:Ks) (r:Int) (s:Nat) (n:Int):Ks:=K++ [Knot.mk true (Lr K r s n),Knot.mk false (Po K r s)]
theorem wL:mk 8 (0:Int) 4=some [0,0,0,0]:=by rw[show(4:Int)=((4:Nat):Int)from rfl,U8 (by omega) (by omega)];rfl
theorem aF {k:Knot} (h:j<k.Kids.length):gi k.Kids (j:Int)=some (HT k j):=by
 unfold HT;rw[AA,Ad h];rfl
theorem Uo (a:Arena) (ha:a.Knots.length<=1048000) (hK:Cr a.Knots=true) (hr:CC a.Knots r=true) (hs:s<16) (hn:0<=n):
  Tt a r (s:Int) n=some (Arena.mk (Hn a.Knots r s n),(a.Knots.length:Int)+1):=by
 unfold Tt;rw[QY _ (Kj hK (by omega)),FM a (by omega),JX a (by omega),IE,hK,hr];simp only[Aa,Ap,Ac];rw[Ab (by omega:0<=(s:Int)/\(s:Int)<=15),Ae (by omega:¬n<0)];simp only[Ap,Ac,Aa];rw[wL];simp only[Aa];have fin:∀(lf tp:List Int),lf.length=4->tp.length=4->Hn a.Knots r s n=a.Knots++ [Knot.mk true (lf.set (s %4) n),Knot.mk false (tp.set (s/4) (a.Knots.length:Int))]->
   ((gi lf (Int.tmod (s:Int) 4)).bind λx4=>(gi tp (qu (s:Int) 4)).bind λx5=>(ap 32 a.Knots [Knot.mk true (si lf (Int.tmod (s:Int) 4) n),Knot.mk false (si tp (qu (s:Int) 4) (ln a.Knots))]).bind λq4=>some (Arena.mk q4,sb (ln q4) 1))=some (Arena.mk (Hn a.Knots r s n),(a.Knots.length:Int)+1):=by
  intro lf tp h1 h2 h3;rw[rX hs,kR,AA,AA,Ad (by omega),Ad (by omega)];simp only[Aa];rw[C4 (by simp;omega),EO,EO,BT,<-h3];simp only[Aa];rw[BT,h3,Ah,CB (by simp;omega) (by simp;omega)];simp only[AH,Bf];congr 2;omega
 rcases BE hr with rfl|⟨h0,h1,hl⟩
 ·rw[Ae (by omega:¬(-1:Int)>=0)];simp only[Ac,Aa];exact fin _ _ rfl rfl rfl
 rw[Ab (by omega:r>=0),Af,FR h0 h1];have h4:=(DL hK h0 h1).1;simp only[Aa];rw[IK (by omega)];simp only[Aa];rw[rX hs,aF (by omega:s/4<(Bo a.Knots r).Kids.length)];simp only[Aa];rw[<-rX hs]
 rcases Eq hK h0 h1 hl (show s/4<4 by omega)with e|⟨e1,e2,e3⟩
 ·rw[Ae (by omega:¬HT (Bo a.Knots r) (s/4)>=0)];simp only[Ac,Aa];exact fin _ _ rfl h4 (by unfold Hn Lr Po;simp only[Au (show¬r<0 by omega),Ar (show HT (Bo a.Knots r) (s/4)<0 by omega)])
 rw[Ab (by omega:HT (Bo a.Knots r) (s/4)>=0),Af,FR e1 (by omega)];have h5:=(DL hK e1 (by omega)).1;simp only[Aa];rw[IK (by omega)];simp only[Aa];exact fin _ _ h5 h4 (by unfold Hn Lr Po;simp only[Au (show¬r<0 by omega),Au (show¬HT (Bo a.Knots r) (s/4)<0 by omega)])
def KN (K:Ks) (r:Int) (i:Nat):Bool:=decide (0<=r)&&(decide (r=(i:Int))||(Bo K r).Kids.any λn=>decide (n=(i:Int)))
theorem XN (n:Nat) (f:Nat->α) (g:Nat->α->α):((List.range n).map f).mapIdx g=(List.range n).map λi=>g i (f i):=by
 apply Cj;intro j;rw[List.getElem?_mapIdx,AF,AF];by_cases h:j<n
 ·rw[Ny h];rfl
 rw[Dq (by simpa using h)];rfl
theorem LR (n:Nat) (f:Nat->α) (i:Nat) (x:α) (g:Nat->α) (h:∀j,j<n->g j=if j=i then x else f j):((List.range n).map f).set i x=(List.range n).map g:=by
 apply Cj;intro j;rw[BY,AF,AF];by_cases hj:j<n
 ·rw[Ny hj];simp only[Bt,h j hj,AQ,CG];by_cases e:i=j
  ·rw[Ar e,Ar (by omega),Ar e.symm]
  rw[Au e,Au (Ep e)]
 rw[Dq (by simpa using hj)];simp only[Option.map_none,AQ,CG];split
 ·rw[Au (by omega)]
 rfl
theorem Gc {n:Nat} {f:Nat->α} (h:i<n):((List.range n).map f)[i]?=some (f i):=by
 rw[AF,Ny h];rfl
theorem ND {l:List Int} {m:Nat} {x:Int} (h:l[m]?=some x) (p:Int->Bool):(l.take (m+1)).any p=((l.take m).any p||p x):=by
 rw[Gl,h,List.any_append];simp
theorem Zt (a:Arena) (ha:a.Knots.length<=1048576) (hK:Cr a.Knots=true) (hr:CC a.Knots r=true):QX a r=some ((List.range a.Knots.length).map (KN a.Knots r)):=by
 unfold QX;rw[BT,U8 (by omega) (by omega)];simp only[Aa]
 rcases BE hr with rfl|⟨h0,h1,hl⟩
 ·simp only[show decide ((-1:Int)<0)=true from rfl,Af];congr 1;rw[show(KN a.Knots (-1))=λ_=>false from rfl,JS,CG]
 rw[Ae (by omega:¬r<0),Ac];obtain⟨m,rfl⟩:∃m:Nat,r=(m:Int):=⟨r.toNat,by omega⟩;rw[AA,List.getElem?_replicate,Ar (by omega)];simp only[Aa];rw[EO];obtain⟨h4,hk⟩:=DL hK h0 h1;obtain⟨b,q1,q2⟩:=Bx (body:=λs:List Bool×Int=>Jn a (m:Int) s.1 s.2) (λ(o:List Bool) i=>(o,i)) 4
  (λi o=>o=(List.range a.Knots.length).map λ(j:Nat)=>decide ((m:Int)=(j:Int))||((Bo a.Knots (m:Int)).Kids.take i).any λn=>decide (n=(j:Int)))
  (λb=>b=(List.range a.Knots.length).map (KN a.Knots (m:Int)))
  (λo i hi ho=>by
   obtain⟨e,_⟩:=hk i hi;simp only[Jn];rw[Ab (by omega:(i:Int)<4),Af,FR h0 h1];simp only[Aa];rw[AA,e];simp only[Aa]
   rcases Eq hK h0 h1 hl hi with e1|⟨e1,e2,e3⟩
   ·rw[e1,Ae (by omega:¬(-1:Int)>=0),Ac,ad1 (by omega)];refine .inl ⟨o,rfl,?_⟩;rw[ho];apply C5;intro j hj;rw[ND e,e1,Ae (by omega:¬(-1:Int)=(j:Int)),Mj]
   obtain⟨c,hc⟩:∃c:Nat,HT (Bo a.Knots (m:Int)) i=(c:Int):=⟨(HT (Bo a.Knots (m:Int)) i).toNat,by omega⟩;rw[hc,Ab (by omega:(c:Int)>=0),Af]
   try simp only[Aa]
   rw[ho,AA,Gc (by omega)];simp only[Aa];rw[EO,ad1 (by omega)];refine .inl ⟨_,rfl,?_⟩;apply LR;intro j hj;rw[ND e,hc];by_cases d:j=c
   ·subst d;simp
   rw[Au d,Ae (by omega:¬(c:Int)=(j:Int)),Mj])
  (λo ho=>⟨_,by simp only[Jn];rw[Ae (by omega:¬((4:Nat):Int)<4),Ac],by
   rw[ho];apply C5;intro j hj;rw[AT (by omega)];unfold KN
   rw[Ab h0,BI]⟩) (s:=(List.replicate a.Knots.length false).set m true) (by
   rw[<-CG (n:=a.Knots.length),<-JS,CG];apply LR;intro j hj;simp only[VU,List.any_nil,Mj];by_cases e:j=m
   ·subst e;simp
   rw[Au e,Ae (by omega)])
 rw[q1,q2];rfl
def BC (K:Ks) (R:List Int) (i:Nat):Bool:=R.any λr=>KN K r i
def VE (K:Ks) (R:List Int) (i:Nat):Nat:=((List.range i).filter (BC K R)).length
def K9 (K:Ks) (R:List Int) (n:Int):Int:=if 0<=n then(VE K R n.toNat:Int)else n
def Tr (K:Ks) (R:List Int) (i:Nat):Knot:=Knot.mk (Bo K (i:Int)).Leaf (bif(Bo K (i:Int)).Leaf then(Bo K (i:Int)).Kids else(Bo K (i:Int)).Kids.map (K9 K R))
def Np (K:Ks) (R:List Int):Ks:=((List.range K.length).filter (BC K R)).map (Tr K R)
theorem GQ (l:List α) (f:α->α):l.mapIdx (λ_ x=>f x)=l.map f:=by
 apply Cj;intro j;rw[List.getElem?_mapIdx,AF]
theorem LJ (hr:r∈R) (h0:0<=r):BC K R r.toNat=true:=by
 unfold BC;rw[C8];exact⟨r,hr,by unfold KN;rw[Ab h0,Ab (by omega:r=(r.toNat:Int))];rfl⟩
theorem TQ (hK:Cr K=true) (hR:∀r∈R,CC K r=true) (hu:BC K R i=true) (hl:(Bo K (i:Int)).Leaf=false):(i:Int)∈R:=by
 unfold BC at hu;rw[C8]at hu;obtain⟨r,hr,h⟩:=hu;unfold KN at h;simp only[Ai,BM,A4,C8]at h;obtain⟨h0,h⟩:=h
 rcases h with h|⟨n,hn,h⟩
 ·rw[<-h];exact hr
 rcases BE (hR r hr)with e|⟨_,h1,a⟩
 ·omega
 obtain⟨h4,hk⟩:=DL hK h0 h1;obtain⟨j,hj,b⟩:=AI hn;have e:=(hk j (by omega)).1;rw[Ad hj,b]at e
 injection e with e
 rcases Eq hK h0 h1 a (show j<4 by omega)with k1|⟨_,_,k3⟩
 ·omega
 rw[<-e,h,hl]at k3;cases k3
theorem QF (hr:r∈R) (h0:0<=r) (hn:n∈(Bo K r).Kids) (h1:0<=n):BC K R n.toNat=true:=by
 unfold BC;rw[C8];refine⟨r,hr,?_⟩;unfold KN;rw[Ab h0,BI,BM,C8];exact .inr ⟨n,hn,by rw[A4];omega⟩
theorem qT (i:Nat):VE K R i<=i:=by
 have:=BF (BC K R) (List.range i);rw[CG]at this;exact this
theorem V7 (a:Arena) (ha:a.Knots.length<=1048576) (R:List Int) (hc:R.length<=1048576) (hR:∀r∈R,CC a.Knots r=true):Aq (λs:Bool×Int=>E0 a R s.1 s.2) (true,0)=some true:=by
 obtain⟨b,h1,h2⟩:=Bx (body:=λs:Bool×Int=>E0 a R s.1 s.2) (λ(o:Bool) i=>(o,i)) R.length (λ_ o=>o=true) (λb=>b=true)
  (λo i hi ho=>by
   have hx:=Ad hi;simp only[E0,AD,Ab hi,Af,Aa,ho,AA,hx];rw[JX a ha,hR _ (Bm hi)];simp only[Aa];rw[ad1 (by omega)]
   exact .inl ⟨true,rfl,rfl⟩)
  (λo ho=>⟨o,by simp only[E0,AD,An,As,Ac,Aa],ho⟩) (s:=true) rfl
 rw[h2]at h1;exact h1
theorem X1 (a:Arena) (ha:a.Knots.length<=1048576) (hK:Cr a.Knots=true) (R:List Int) (hc:R.length<=1048576) (hR:∀r∈R,CC a.Knots r=true):
  Aq (λs:List Bool×Int=>Ez a R s.1 s.2) (List.replicate a.Knots.length false,0)=some ((List.range a.Knots.length).map (BC a.Knots R)):=by
 obtain⟨b,h1,h2⟩:=Bx (body:=λs:List Bool×Int=>Ez a R s.1 s.2) (λ(o:List Bool) i=>(o,i)) R.length (λi o=>o=(List.range a.Knots.length).map λ(j:Nat)=>(R.take i).any λr=>KN a.Knots r j) (λb=>b=(List.range a.Knots.length).map (BC a.Knots R))
  (λo i hi ho=>by
   have hx:=Ad hi;simp only[Ez,AD,Ab hi,Af,Aa,AA,hx];rw[Zt a ha hK (hR _ (Bm hi))];simp only[Aa];have d:o.length=a.Knots.length:=by rw[ho];simp
   have q:=KG (body:=λs:List Bool×Int=>FV ((List.range a.Knots.length).map (KN a.Knots R[i])) s.1 s.2) (λl i=>(l,i)) (λk x=>x||KN a.Knots R[i] k) o
    (λk l x hl c e=>by
     have hk:k<a.Knots.length:=by have:=(Ag.1 c).1;omega
     simp only[FV,AD];rw[Ab (by simpa using hk),Af,AA,c];simp only[Aa]
     cases x with
     |true=>simp only[Af,fJ];rw[EO,ad1 (by omega)]
     |false=>
      simp only[Ac,HS];rw[AA,Gc hk];simp only[Aa]
      rw[EO,ad1 (by omega)])
    (λl hl=>by simp only[FV,AD];rw[d,Ae (by simp),Ac])
   rw[q];simp only[Aa];rw[ad1 (by omega),ho,XN];refine .inl ⟨_,rfl,?_⟩;apply C5;intro j hj;rw[Gl,hx,List.any_append]
   simp)
  (λo ho=>⟨o,by simp only[Ez,AD,An,As,Ac],by rw[ho,AT (by omega)];rfl⟩) (s:=List.replicate a.Knots.length false) (by
   simp only[VU,List.any_nil]
   rw[JS,CG])
 rw[<-h2];exact h1
def Pr (K:Ks) (R:List Int) (i:Nat):List Int:=(List.range K.length).map λ(j:Nat)=>if j<i/\BC K R j=true then(VE K R j:Int)else 0
theorem V8 (a:Arena) (ha:a.Knots.length<=1048576) (hK:Cr a.Knots=true) (R:List Int) (hR:∀r∈R,CC a.Knots r=true):
  Aq (λs:List Int×Int×List Knot=>Ey a ((List.range a.Knots.length).map (BC a.Knots R)) s.1 s.2.1 s.2.2) (List.replicate a.Knots.length 0,0,[])=some (Pr a.Knots R a.Knots.length,Np a.Knots R):=by
 obtain⟨b,h1,h2⟩:=Bx (body:=λs:List Int×Int×List Knot=>Ey a ((List.range a.Knots.length).map (BC a.Knots R)) s.1 s.2.1 s.2.2) (λ(o:List Int×List Knot) i=>(o.1,i,o.2)) a.Knots.length
  (λi o=>o=(Pr a.Knots R i,((List.range i).filter (BC a.Knots R)).map (Tr a.Knots R))) (λb=>b=(Pr a.Knots R a.Knots.length,Np a.Knots R))
  (λo i hi ho=>by
   subst ho;simp only[Ey,AD,Ab hi,Af];rw[AA,Gc hi];simp only[Aa]
   cases hu:BC a.Knots R i with
   |false=>
    simp only[AM,Af];rw[ad1 (by omega)];refine .inl ⟨(Pr a.Knots R i,((List.range i).filter (BC a.Knots R)).map (Tr a.Knots R)),rfl,?_⟩;congr 1
    ·unfold Pr;apply C5;intro j hj;by_cases e:j=i
     ·subst e;rw[Au (by omega),Au (by rw[hu];simp)]
     by_cases h:j<i/\BC a.Knots R j=true
     ·rw[Ar h,Ar ⟨by omega,h.2⟩]
     rw[Au h,Au (λh3=>h ⟨by omega,h3.2⟩)]
    rw[HB,AO,BZ (by rw[hu];simp)];simp
   |true=>
    simp only[Ap,Ac];have h0:(0:Int)<=(i:Int):=by omega
    have d:(i:Int)<(a.Knots.length:Int):=by omega
    rw[FR h0 d];obtain⟨h4,hk⟩:=DL hK h0 d;simp only[Aa];rw[IK (by omega)];simp only[Aa];have inner:Aq (λs:Int×List Int=>Ex (Pr a.Knots R i) ((Bo a.Knots (i:Int)).Leaf,(Bo a.Knots (i:Int)).Kids) s.1 s.2) (0,(Bo a.Knots (i:Int)).Kids)=some (Tr a.Knots R i).Kids:=by
     unfold Tr
     cases hl:(Bo a.Knots (i:Int)).Leaf with
     |true=>rw[A9];rfl
     |false=>
      have q:=KG (body:=λs:Int×List Int=>Ex (Pr a.Knots R i) (false,(Bo a.Knots (i:Int)).Kids) s.1 s.2) (λl k=>(k,l)) (λ_ x=>K9 a.Knots R x) (Bo a.Knots (i:Int)).Kids
       (λk l x t f g=>by
        have m:k<4:=by have:=(Ag.1 g).1;omega
        have ex:x=HT (Bo a.Knots (i:Int)) k:=by have:=(hk k m).1;rw[g]at this;injection this
        simp only[Ex];rw[Ab (by omega:(k:Int)<4)];simp only[Af,Aa,AM];rw[AA,f];simp only[Aa]
        rcases Eq hK h0 d hl m with e|⟨e1,e2,e3⟩
        ·rw[Ae (by omega:¬x>=0),Ac,ad1 (by omega)];have:K9 a.Knots R x=x:=by unfold K9;rw[Au (by omega)]
         rw[this,show l.set k x=l from by
          apply Cj;intro j;rw[BY];split
          ·rename_i e5;subst e5;rw[Ar (Ag.1 f).1,f]
          rfl]
        rw[Ab (by omega:x>=0),Af];obtain⟨c,hc⟩:∃c:Nat,x=(c:Int):=⟨x.toNat,by omega⟩;have u:x∈(Bo a.Knots (i:Int)).Kids:=A6 g;have n:=QF (TQ hK hR hu hl) h0 u (by omega);rw[hc]at n;rw[hc,AA];unfold Pr;rw[Gc (by omega)];simp only[Aa];rw[Ar ⟨by omega,n⟩,EO,ad1 (by omega)];unfold K9;rw[Ar (by omega)]
        rfl)
       (λl t=>by
        simp only[Ex];rw[h4,Ae (by omega:¬((4:Nat):Int)<4)]
        rfl)
      rw[GQ]at q;exact q
    rw[inner];simp only[Aa];have v:gi (Pr a.Knots R i) (i:Int)=some 0:=by
     unfold Pr;rw[AA,Gc hi,Au (by omega)]
    rw[v];simp only[Aa];have w:=qT (K:=a.Knots) (R:=R) i;have p:(((List.range i).filter (BC a.Knots R)).map (Tr a.Knots R)).length=VE a.Knots R i:=by rw[AQ];rfl
    rw[C4 (by rw[p];simp;omega)];simp only[Aa];rw[ad1 (by omega),BT,p,EO];refine .inl ⟨(_,_),rfl,?_⟩;congr 1
    ·unfold Pr;apply LR;intro j hj;by_cases e:j=i
     ·subst e;rw[Ar ⟨by omega,hu⟩,Ar rfl]
     rw[Au e];by_cases h:j<i/\BC a.Knots R j=true
     ·rw[Ar h,Ar ⟨by omega,h.2⟩]
     rw[Au h,Au (λh3=>h ⟨by omega,h3.2⟩)]
    rw[HB,AO,Cn hu,Gh,Dt]
    rfl)
  (λo ho=>⟨o,by simp only[Ey,AD,An,As,Ac],ho⟩) (s:=(List.replicate a.Knots.length 0,[])) (by
   unfold Pr;simp only[Nat.not_lt_zero,false_and,Iu];rw[JS,CG]
   rfl)
 rw[<-h2];exact h1
theorem c7 (a:Arena) (ha:a.Knots.length<=1048576) (R:List Int) (hc:R.length<=1048576) (hR:∀r∈R,CC a.Knots r=true):
  Aq (λs:List Int×Int=>Ew (Pr a.Knots R a.Knots.length,Np a.Knots R) s.1 s.2) (R,0)=some (R.map (K9 a.Knots R)):=by
 have q:=KG (body:=λs:List Int×Int=>Ew (Pr a.Knots R a.Knots.length,Np a.Knots R) s.1 s.2) (λl k=>(l,k)) (λ_ x=>K9 a.Knots R x) R
  (λk l x f b d=>by
   have hk:=(Ag.1 d).1;have g:=(Ag.1 b).1;simp only[Ew,AD,Ab g,Af,AA,b,Aa]
   rcases BE (hR x (A6 d))with e|⟨e1,e2,e3⟩
   ·rw[Ae (by omega:¬x>=0),Ac,ad1 (by omega)];have:K9 a.Knots R x=x:=by unfold K9;rw[Au (by omega)]
    rw[this,show l.set k x=l from by
     apply Cj;intro j;rw[BY];split
     ·rename_i e5;subst e5
      first
       |rw[Ar g,b]
       |exact b.symm
     rfl]
   rw[Ab (by omega:x>=0),Af];obtain⟨c,h⟩:∃c:Nat,x=(c:Int):=⟨x.toNat,by omega⟩;have i:=LJ (K:=a.Knots) (A6 d) e1;rw[h]at i;rw[h,AA];unfold Pr;rw[Gc (by omega)];simp only[Aa];rw[Ar ⟨by omega,i⟩,EO,ad1 (by omega)];unfold K9;rw[Ar (by omega)]
   rfl)
  (λl f=>by simp only[Ew,BT,f];rw[Ae (by omega),Ac])
 rw[GQ]at q;exact q
theorem PV (a:Arena) (ha:a.Knots.length<=1048576) (hK:Cr a.Knots=true) (R:List Int) (hc:R.length<=1048576) (hR:∀r∈R,CC a.Knots r=true):
  If a R=some (Arena.mk (Np a.Knots R),R.map (K9 a.Knots R)):=by
 unfold If;rw[IK (by omega),FM a ha,hK];simp only[Aa];rw[V7 a ha R hc hR];simp only[Aa,Ap,Ac];rw[BT,U8 (by omega) (by omega)];simp only[Aa];rw[X1 a ha hK R hc hR];simp only[Aa];rw[U8 (by omega) (by omega)];simp only[Aa];rw[V8 a ha hK R hR];simp only[Aa];rw[c7 a ha R hc hR];rfl
theorem UY (p:Nat->Bool) (hp:p i=true):∀{n:Nat},i<n->((List.range n).filter p)[((List.range i).filter p).length]?=some i
 |0,h=>by omega
 |n+1,h=>by
  rw[HB,AO];by_cases e:i=n
  ·subst e;rw[AW (A5 _),Nat.sub_self,Cn hp];rfl
  have h2:=UY p hp (show i<n by omega);have h3:=(Ag.1 h2).1;rw[AS h3,h2]
theorem aJ {n:Nat} (p:Nat->Bool) (hp:p i=true) (h:i<n):((List.range i).filter p).length<((List.range n).filter p).length:=(Ag.1 (UY p hp h)).1
theorem aI (p:Nat->Bool):∀{n j:Nat},j<((List.range n).filter p).length->∃i,i<n/\p i=true/\((List.range i).filter p).length=j
 |0,j,h=>by simp at h
 |n+1,j,h=>by
  rw[HB,AO,Ah]at h;by_cases e:j<((List.range n).filter p).length
  ·obtain⟨i,h1,h2,h3⟩:=aI p e;exact⟨i,by omega,h2,h3⟩
  by_cases hp:p n=true
  ·rw[Cn hp]at h;simp at h;exact⟨n,by omega,hp,by omega⟩
  rw[BZ hp]at h;simp at h;omega
theorem Xl:(Np K R).length=VE K R K.length:=by unfold Np VE;rw[AQ]
theorem OG (hu:BC K R i=true) (hi:i<K.length):Bo (Np K R) (VE K R i:Nat)=Tr K R i/\VE K R i<(Np K R).length:=by
 have h:=aJ (BC K R) hu hi;have h2:VE K R i<(Np K R).length:=by rw[Xl];exact h
 refine⟨?_,h2⟩;unfold Bo;rw[AA];unfold Np;rw[AF];have:=UY (BC K R) hu hi;rw[show VE K R i=((List.range i).filter (BC K R)).length from rfl,this];rfl
theorem kV (hj:j<(Np K R).length):∃i,i<K.length/\BC K R i=true/\VE K R i=j:=by
 rw[Xl]at hj;exact aI (BC K R) hj
theorem tY (hu:BC K R i=true) (h:i<j):VE K R i<VE K R j:=aJ _ hu h
theorem TX (i:Nat):(Tr K R i).Leaf=(Bo K (i:Int)).Leaf:=rfl
theorem fS (hK:Cr K=true) (hi:i<K.length):(Tr K R i).Kids.length=4:=by
 have:=(FU.1 hK i hi).1;unfold Tr
 cases(Bo K (i:Int)).Leaf with
 |true=>exact this
 |false=>simp only[Ac,AQ];exact this
theorem fT (hl:(Bo K (i:Int)).Leaf=false) (hj:j<(Bo K (i:Int)).Kids.length):HT (Tr K R i) j=K9 K R (HT (Bo K (i:Int)) j):=by
 unfold HT Tr;rw[hl];simp only[Ac];rw[AF,Ad hj];rfl
theorem P8 (hl:(Bo K (i:Int)).Leaf=true):(Tr K R i).Kids=(Bo K (i:Int)).Kids:=by
 unfold Tr;rw[hl];rfl
theorem OR (h:n<0):K9 K R n=n:=by unfold K9;rw[Au (by omega)]
theorem OS (n:Nat):K9 K R (n:Int)=(VE K R n:Int):=by unfold K9;rw[Ar (by omega)];rfl
theorem rI (hK:Cr K=true) (hR:∀r∈R,CC K r=true):Cr (Np K R)=true:=by
 rw[FU];intro j hj;obtain⟨i,hi,hu,rfl⟩:=kV hj;rw[(OG hu hi).1];refine⟨fS hK hi,λn hn=>?_⟩;have h0:(0:Int)<=(i:Int):=by omega
 have h1:(i:Int)<(K.length:Int):=by omega
 obtain⟨h4,hk⟩:=DL hK h0 h1;rw[TX]
 cases hl:(Bo K (i:Int)).Leaf with
 |true=>
  rw[P8 hl]at hn;have:=(FU.1 hK i hi).2 n hn;rw[hl]at this;simpa[Ma]using this
 |false=>
  obtain⟨m,hm,b⟩:=AI hn;rw[fS hK hi]at hm;have e:n=K9 K R (HT (Bo K (i:Int)) m):=by
   rw[<-fT hl (by omega),<-b];unfold HT;rw[Ad];rfl
  rcases Eq hK h0 h1 hl hm with k1|⟨k1,k2,k3⟩
  ·rw[k1,OR (by omega)]at e;subst e;rfl
  obtain⟨c,hc⟩:∃c:Nat,HT (Bo K (i:Int)) m=(c:Int):=⟨_,(Di k1).symm⟩;rw[hc]at e k2 k3;rw[OS]at e;have a:=QF (TQ hK hR hu hl) h0 (A6 (hk m hm).1) (by omega);rw[hc]at a;have d:c<K.length:=by omega
  have f:VE K R c<VE K R i:=tY (by simpa using a) (by omega);subst e;simp only[Ma,Ac,BM,DF,Ai,A4];refine .inr ⟨by omega,?_⟩;rw[(OG (by simpa using a) d).1,TX];exact k3
theorem lN (hR:∀r∈R,CC K r=true) (hr:r∈R):CC (Np K R) (K9 K R r)=true:=by
 rcases BE (hR r hr)with e|⟨h0,h1,hl⟩
 ·rw[e,OR (by omega)];rfl
 obtain⟨c,rfl⟩:∃c:Nat,r=(c:Int):=⟨_,(Di h0).symm⟩;have a:=LJ (K:=K) hr h0;rw[AZ]at a;obtain⟨g1,g2⟩:=OG a (by omega);rw[OS];unfold CC;rw[Ab (by omega),g1,TX,hl];simp
theorem gD (hK:Cr K=true) (hR:∀r∈R,CC K r=true) (hr:r∈R):G6 (Np K R) (K9 K R r)=G6 K r:=by
 unfold G6;apply C5;intro s hs;rw[List.mem_range]at hs;unfold O1
 rcases BE (hR r hr)with e|⟨h0,h1,hl⟩
 ·rw[e,OR (by omega),Ar (by omega),Ar (by omega)]
 obtain⟨c,rfl⟩:∃c:Nat,r=(c:Int):=⟨_,(Di h0).symm⟩;have a:=LJ (K:=K) hr h0;rw[AZ]at a;obtain⟨g1,g2⟩:=OG a (by omega);obtain⟨h4,hk⟩:=DL hK h0 h1;rw[OS,g1,fT hl (by omega)];simp only[Au (show¬((VE K R c:Nat):Int)<0 by omega),Au (show¬((c:Nat):Int)<0 by omega)]
 rcases Eq hK h0 h1 hl (show s/4<4 by omega)with k1|⟨k1,k2,k3⟩
 ·rw[k1,OR (by omega)];rfl
 obtain⟨d,hd⟩:∃d:Nat,HT (Bo K (c:Int)) (s/4)=(d:Int):=⟨_,(Di k1).symm⟩;have b:=QF hr h0 (A6 (hk (s/4) (by omega)).1) k1;rw[hd]at b k2 k3;rw[hd,OS];simp only[Au (show¬((VE K R d:Nat):Int)<0 by omega),Au (show¬((d:Nat):Int)<0 by omega)];rw[(OG (by simpa using b) (by omega)).1];unfold HT;rw[P8 k3]
theorem oP (hK:Cr K=true) (hR:∀r∈R,CC K r=true) (hj:j<(Np K R).length):BC (Np K R) (R.map (K9 K R)) j=true:=by
 obtain⟨i,hi,hu,rfl⟩:=kV hj;have hu':=hu;unfold BC at hu';rw[C8]at hu';obtain⟨r,hr,h⟩:=hu';unfold KN at h;simp only[Ai,BM,A4,C8]at h;obtain⟨h0,h⟩:=h;unfold BC;rw[C8];refine⟨K9 K R r,AG.2 ⟨r,hr,rfl⟩,?_⟩;obtain⟨c,rfl⟩:∃c:Nat,r=(c:Int):=⟨_,(Di h0).symm⟩;rw[OS];unfold KN;simp only[Ai,BM,A4,C8];refine⟨by omega,?_⟩
 rcases h with h|⟨n,hn,h⟩
 ·have:c=i:=by omega
  subst this;exact .inl rfl
 right
 rcases BE (hR _ hr)with e|⟨_,h1,hl⟩
 ·omega
 have a:=LJ (K:=K) hr h0;rw[AZ]at a;rw[(OG a (by omega)).1];refine⟨(VE K R i:Int),?_,rfl⟩;unfold Tr;rw[hl];simp only[Ac,AG];exact⟨n,hn,by rw[h,OS]⟩
theorem KI {i:Int} (h0:0<=i) (h:i<(K.length:Int)):Bo (K++X) i=Bo K i:=by
 obtain⟨c,rfl⟩:∃c:Nat,i=(c:Int):=⟨_,(Di h0).symm⟩;unfold Bo;rw[AA,AA,AS (by omega)]
theorem lK (h:CC K r=true):CC (K++X) r=true:=by
 rcases BE h with e|⟨h0,h1,hl⟩
 ·rw[e];rfl
 unfold CC;rw[KI h0 h1,hl,Ab (by rw[Ah];omega)];simp
theorem f8 (hK:Cr K=true) (h:CC K r=true):G6 (K++X) r=G6 K r:=by
 unfold G6;apply C5;intro s hs;rw[List.mem_range]at hs;unfold O1
 rcases BE h with e|⟨h0,h1,hl⟩
 ·rw[e];rfl
 rw[KI h0 h1];simp only[Au (show¬r<0 by omega)]
 rcases Eq hK h0 h1 hl (show s/4<4 by omega)with k1|⟨k1,k2,k3⟩
 ·rw[k1];rfl
 rw[KI k1 (by omega)]
theorem WE (hK:Cr K=true) (hr:CC K r=true) (hs:s<16) (n:Int):(Lr K r s n).length=4:=by
 unfold Lr;rw[EL]
 rcases BE hr with e|⟨h0,h1,hl⟩
 ·rw[Ar (by omega)];rfl
 rw[Au (by omega)]
 rcases Eq hK h0 h1 hl (show s/4<4 by omega)with k1|⟨k1,k2,k3⟩
 ·rw[Ar (by omega)];rfl
 rw[Au (by omega)];exact(DL hK k1 (by omega)).1
theorem Ze (hK:Cr K=true) (hr:CC K r=true) (s:Nat):(Po K r s).length=4:=by
 unfold Po;rw[EL]
 rcases BE hr with e|⟨h0,h1,hl⟩
 ·rw[Ar (by omega)];rfl
 rw[Au (by omega)];exact(DL hK h0 h1).1
theorem Sh:Bo (Hn K r s n) (K.length:Int)=Knot.mk true (Lr K r s n):=by
 unfold Bo Hn;rw[AA,AW (A5 _),Nat.sub_self];rfl
theorem Sg:Bo (Hn K r s n) ((K.length:Int)+1)=Knot.mk false (Po K r s):=by
 unfold Bo Hn;rw[show(K.length:Int)+1=((K.length+1:Nat):Int)from rfl,AA,AW (by omega),show K.length+1-K.length=1 by omega];rfl
theorem rY (hK:Cr K=true) (hr:CC K r=true) (hs:s<16) (hn:0<=n):Cr (Hn K r s n)=true:=by
 rw[FU];intro j hj;have a:(Hn K r s n).length=K.length+2:=by unfold Hn;simp
 rw[a]at hj;by_cases h:j<K.length
 ·have hk:Bo (Hn K r s n) (j:Int)=Bo K (j:Int):=KI (by omega) (by omega);rw[hk];obtain⟨h4,h5⟩:=FU.1 hK j h;refine⟨h4,λm hm=>?_⟩;have:=h5 m hm
  cases hl:(Bo K (j:Int)).Leaf with
  |true=>rw[hl]at this;exact this
  |false=>
   rw[hl]at this;simp only[Ma,Ac,BM,DF,Ai,A4]at this⊢
   rcases this with e|⟨e1,e2⟩
   ·exact .inl e
   refine .inr ⟨e1,?_⟩;rw[show Bo (Hn K r s n) m=Bo K m from KI e1.1 (by omega)];exact e2
 by_cases e:j=K.length
 ·subst e;rw[Sh];refine⟨WE hK hr hs n,λm hm=>?_⟩;simp only[Ma,Af,A4];unfold Lr at hm
  rcases Je hm with hm|hm
  ·rcases BE hr with e|⟨h0,h1,hl⟩
   ·rw[Ar (by omega)]at hm;simp at hm;omega
   rw[Au (by omega)]at hm
   rcases Eq hK h0 h1 hl (show s/4<4 by omega)with k1|⟨k1,k2,k3⟩
   ·rw[Ar (by omega)]at hm;simp at hm;omega
   rw[Au (by omega)]at hm;have hq:=FU.1 hK (HT (Bo K r) (s/4)).toNat (by omega);rw[Di k1,k3]at hq;have:=hq.2 m hm;simpa[Ma]using this
  omega
 have:j=K.length+1:=by omega
 subst this;rw[show((K.length+1:Nat):Int)=(K.length:Int)+1 from rfl,Sg];refine⟨Ze hK hr s,λm hm=>?_⟩;simp only[Ma,Ac,BM,DF,Ai,A4];unfold Po at hm
 rcases Je hm with hm|hm
 ·rcases BE hr with e|⟨h0,h1,hl⟩
  ·rw[Ar (by omega)]at hm;simp at hm;omega
  rw[Au (by omega)]at hm;obtain⟨q,hq,rfl⟩:=AI hm;obtain⟨h4,hk⟩:=DL hK h0 h1;have e5:=(hk q (by omega)).1;rw[Ad hq]at e5
  injection e5 with e5
  rw[e5]
  rcases Eq hK h0 h1 hl (show q<4 by omega)with k1|⟨k1,k2,k3⟩
  ·exact .inl k1
  refine .inr ⟨by omega,?_⟩;rw[show Bo (Hn K r s n) (HT (Bo K r) q)=Bo K (HT (Bo K r) q)from KI k1 (by omega)];exact k3
 refine .inr ⟨by omega,?_⟩;rw[hm,Sh]
theorem iX:CC (Hn K r s n) ((K.length:Int)+1)=true:=by
 unfold CC;rw[Sg,Ab (by unfold Hn;simp;omega)];simp
theorem gJ (hK:Cr K=true) (hr:CC K r=true) (hs:s<16):G6 (Hn K r s n) ((K.length:Int)+1)=(G6 K r).set s n:=by
 unfold G6;symm;apply LR;intro t ht;unfold O1;rw[Sg];simp only[Au (show¬((K.length:Int)+1)<0 by omega)];have a:=Ze hK hr s;have b:=WE hK hr hs n;by_cases hq:t/4=s/4
 ·have e1:HT (Knot.mk false (Po K r s)) (t/4)=(K.length:Int):=by
   unfold HT Po;rw[hq,BY,Ar rfl];unfold Po at a;rw[EL]at a;rw[Ar (by rw[a];omega)];rfl
  rw[e1,Au (by omega),Sh];have e2:HT (Knot.mk true (Lr K r s n)) (t %4)=if t %4=s %4 then n else(if r<0 then 0 else if HT (Bo K r) (s/4)<0 then 0 else HT (Bo K (HT (Bo K r) (s/4))) (t %4)):=by
   unfold HT Lr;unfold Lr at b;rw[EL]at b;rw[BY];by_cases e:s %4=t %4
   ·rw[Ar e,Ar (by rw[b];omega),Ar e.symm];rfl
   rw[Au e,Au (Ep e)];have zero:([0,0,0,0]:List Int)[t %4]?.getD 0=0:=by
    have:t %4<4:=by omega
    generalize t %4=q at this
    match q,this with
    |0,_=>rfl
    |1,_=>rfl
    |2,_=>rfl
    |3,_=>rfl
   by_cases c1:r<0
   ·rw[Ar c1,Ar c1];exact zero
   rw[Au c1,Au c1];unfold HT;by_cases c2:((Bo K r).Kids[s/4]?).getD 0<0
   ·rw[Ar c2,Ar c2];exact zero
   rw[Au c2,Au c2]
  rw[e2,hq];by_cases e:t=s
  ·rw[Ar e,Ar (by rw[e])]
  rw[Au e,Au (by omega)]
 rw[Au (show¬t=s by intro e;rw[e]at hq;exact hq rfl)];have e1:HT (Knot.mk false (Po K r s)) (t/4)=if r<0 then-1 else HT (Bo K r) (t/4):=by
  unfold HT Po;rw[BY,Au (Ep hq)];by_cases c1:r<0
  ·rw[Ar c1,Ar c1];have:t/4<4:=by omega
   generalize t/4=q at this
   match q,this with
   |0,_=>rfl
   |1,_=>rfl
   |2,_=>rfl
   |3,_=>rfl
  rw[Au c1,Au c1]
 rw[e1]
 rcases BE hr with e|⟨h0,h1,hl⟩
 ·rw[e];rfl
 simp only[Au (show¬r<0 by omega)]
 rcases Eq hK h0 h1 hl (show t/4<4 by omega)with k1|⟨k1,k2,k3⟩
 ·rw[k1];rfl
 rw[show Bo (Hn K r s n) (HT (Bo K r) (t/4))=Bo K (HT (Bo K r) (t/4))from KI k1 (by omega)]
def HV (n:Nat) (p:Nat->Bool):Nat:=((List.range n).filter p).length
theorem HP (n:Nat) (p:Nat->Bool):HV (n+1) p=HV n p+(if p n=true then 1 else 0):=by
 unfold HV;rw[HB,AO,Ah];by_cases h:p n=true
 ·rw[Ar h,Cn h];rfl
 rw[Au h,BZ h];rfl
theorem T8 (p q:Nat->Bool):∀n,HV n (λj=>p j||q j)<=HV n p+HV n q
 |0=>by simp[HV]
 |n+1=>by
  have:=T8 p q n;rw[HP,HP,HP];cases p n<;>cases q n<;>simp<;>omega
theorem Vf (x:Int):∀n,HV n (λj=>decide (x=(j:Int)))<=1/\(x>=(n:Int)->HV n (λj=>decide (x=(j:Int)))=0)
 |0=>by simp[HV]
 |n+1=>by
  obtain⟨h1,h2⟩:=Vf x n;rw[HP];by_cases h:x=(n:Int)
  ·have:=h2 (by omega);rw[Ar (by simpa using h)];exact⟨by omega,λh3=>by omega⟩
  rw[Au (by simpa using h)];exact⟨by omega,λh3=>by rw[h2 (by omega)]⟩
theorem nN (l:List Int) (n:Nat):HV n (λj=>l.any λx=>decide (x=(j:Int)))<=l.length:=by
 induction l with
 |nil=>simp[HV]
 |cons x l ih=>
  simp only[List.any_cons,AH];have:=T8 (λj=>decide (x=(j:Int))) (λj=>l.any λx=>decide (x=(j:Int))) n;have:=(Vf x n).1;omega
theorem p9 {n:Nat} {q:Nat->Bool} (h:∀j,j<n->p j=true->q j=true):HV n p<=HV n q:=by
 induction n with
 |zero=>simp[HV]
 |succ n ih=>
  have:=ih (λj hj=>h j (by omega));rw[HP,HP];by_cases e:p n=true
  ·rw[Ar e,Ar (h n (by omega) e)];omega
  rw[Au e];omega
theorem R3 {n:Nat} (h:∀j,j<n->p j=true):HV n p=n:=by
 induction n with
 |zero=>rfl
 |succ n ih=>rw[HP,Ar (h n (by omega)),ih (λj hj=>h j (by omega))]
theorem pZ (hK:Cr K=true) (hr:CC K r=true) (n:Nat):HV n (KN K r)<=5:=by
 have h1:=T8 (λj=>decide (r=(j:Int))) (λj=>(Bo K r).Kids.any λn=>decide (n=(j:Int))) n;have h2:=(Vf r n).1;have h3:=nN (Bo K r).Kids n
 have h4:HV n (KN K r)<=HV n (λj=>decide (r=(j:Int))||(Bo K r).Kids.any λn=>decide (n=(j:Int))):=p9 λj _ h=>by
  unfold KN at h;rw[Ai]at h;exact h.2
 rcases BE hr with e|⟨h0,hl,_⟩
 ·have:HV n (KN K r)=HV n (λ_=>false):=by rw[e];rfl
  rw[this];unfold HV;rw[Cw.2 (by simp)];simp
 have:=(DL hK h0 hl).1;omega
theorem QG (hK:Cr K=true) (n:Nat):∀(R:List Int),(∀r∈R,CC K r=true)->HV n (BC K R)<=5*R.length
 |[],_=>by simp[HV,BC]
 |r::R,h=>by
  have h1:=QG hK n R (λx hx=>h x (by simp[hx]));have h2:=pZ hK (h r (by simp)) n;have h3:=T8 (KN K r) (BC K R) n;have h4:HV n (BC K (r::R))=HV n (λj=>KN K r j||BC K R j):=rfl;rw[h4,AH];omega
theorem iP (hK:Cr K=true) (hR:∀r∈R,CC K r=true):(Np K R).length<=5*R.length:=by
 rw[Xl];exact QG hK _ R hR
def AR (s:Store):List Int:=s.Vols.map Vol.Root
structure StoreR (s:Store):Prop where
 len:s.Vols.length<=3
 ar:Cr s.Arena.Knots=true
 nx:1<=s.Next/\s.Next<=1000000000
 ids:∀v∈s.Vols,1<=v.Id/\v.Id<=9
 asc:(s.Vols.map Vol.Id).Pairwise (·<·)
 root:∀r∈AR s,CC s.Arena.Knots r=true
 lt:∀r∈AR s,∀x∈G6 s.Arena.Knots r,x<s.Next
 few:s.Arena.Knots.length<=1000
structure Dd (s:Store):Prop extends StoreR s where
 used:∀i,i<s.Arena.Knots.length->BC s.Arena.Knots (AR s) i=true
theorem Dd.small {s:Store} (h:Dd s):s.Arena.Knots.length<=15:=by
 have h1:=QG h.ar s.Arena.Knots.length (AR s) h.root;rw[R3 h.used]at h1;have:(AR s).length=s.Vols.length:=by unfold AR;rw[AQ]
 have:=h.len;omega
def Ft (s:Store):List (Int×List Int):=s.Vols.map λv=>(v.Id,G6 s.Arena.Knots v.Root)
def I2 (s:Store):Store:=Store.mk (s.Vols.map λv=>Vol.mk v.Id (K9 s.Arena.Knots (AR s) v.Root)) (Arena.mk (Np s.Arena.Knots (AR s))) s.Next
theorem M7 (s:Store):AR (I2 s)=(AR s).map (K9 s.Arena.Knots (AR s)):=by
 unfold AR I2;simp only[Gm];rfl
theorem fR {s:Store} (h:StoreR s):Dd (I2 s):=by
 have b:(AR s).length=s.Vols.length:=by unfold AR;rw[AQ]
 refine⟨⟨by unfold I2;simpa using h.len,rI h.ar h.root,h.nx,?_,?_,?_,?_,?_⟩,?_⟩
 ·intro v hv;unfold I2 at hv;simp only[AG]at hv;obtain⟨w,hw,rfl⟩:=hv;exact h.ids w hw
 ·have:((I2 s).Vols.map Vol.Id)=s.Vols.map Vol.Id:=by unfold I2;simp only[Gm];rfl
  rw[this];exact h.asc
 ·intro r hr;rw[M7]at hr;obtain⟨q,hq,rfl⟩:=AG.1 hr;exact lN h.root hq
 ·intro r hr;rw[M7]at hr;obtain⟨q,hq,rfl⟩:=AG.1 hr;have:=gD h.ar h.root hq;intro x hx;have a:x∈G6 s.Arena.Knots q:=by rw[<-this];exact hx
  exact h.lt q hq x a
 ·have:=iP h.ar h.root;have:=h.len;show(Np s.Arena.Knots (AR s)).length<=1000;omega
 intro i hi;rw[M7];exact oP h.ar h.root hi
theorem Wl {s:Store} (h:StoreR s):Ft (I2 s)=Ft s:=by
 unfold Ft;show(s.Vols.map λv=>Vol.mk v.Id (K9 s.Arena.Knots (AR s) v.Root)).map _=_;rw[Gm];apply C5;intro v hv;have:=gD h.ar h.root (show v.Root∈AR s from AG.2 ⟨v,hv,rfl⟩);show(v.Id,G6 (Np s.Arena.Knots (AR s)) (K9 s.Arena.Knots (AR s) v.Root))=_;rw[this]
theorem L5 (s:Store) (hv:s.Vols.length<=1048576):K1 s=some (AR s):=by
 unfold K1;obtain⟨b,h1,h2⟩:=Bx (body:=λq:List Int×Int=>Hj s q.1 q.2) (λ(o:List Int) i=>(o,i)) s.Vols.length (λi o=>o=(s.Vols.take i).map Vol.Root) (λb=>b=AR s)
  (λo i hi ho=>by
   have hx:=Ad hi;simp only[Hj,AD,Ab hi,Af,AA,hx,Aa];rw[C4 (by rw[ho];simp;omega)];simp only[Aa];rw[ad1 (by omega)]
   exact .inl ⟨_,rfl,by rw[ho,Gl,hx,Dt];rfl⟩)
  (λo ho=>⟨o,by simp only[Hj,AD,An,As,Ac],by rw[ho,AT (A5 _)];rfl⟩) (s:=[]) rfl
 rw[h1,h2];rfl
theorem Hh {s:Store} (h:StoreR s):FE s=some (I2 s):=by
 have hl:=h.len;have hf:=h.few;have d:(AR s).length=s.Vols.length:=by unfold AR;rw[AQ]
 unfold FE;rw[L5 s (by omega)];simp only[Aa];rw[PV _ (by omega) h.ar _ (by omega) h.root];simp only[Aa];rw[IK (by omega)];simp only[Aa];have q:=KG (body:=λq:Int×List Vol=>Hi ((AR s).map (K9 s.Arena.Knots (AR s)),Np s.Arena.Knots (AR s)) q.1 q.2) (λl i=>(i,l)) (λ_ v=>Vol.mk v.Id (K9 s.Arena.Knots (AR s) v.Root)) s.Vols
  (λi l x a b c=>by
   have hi:=(Ag.1 b).1;simp only[Hi,AD,Ab hi,Af];have:gi ((AR s).map (K9 s.Arena.Knots (AR s))) (i:Int)=some (K9 s.Arena.Knots (AR s) x.Root):=by
    rw[AA,AF];unfold AR;rw[AF,c];rfl
   rw[this,AA,b];simp only[Aa]
   rw[EO,ad1 (by omega)])
  (λl a=>by simp only[Hi,BT,a];rw[Ae (by omega),Ac])
 rw[GQ]at q;rw[q];rfl
theorem TW {s:Store} (h:Dd s):I2 s=s:=by
 have c:∀i,i<=s.Arena.Knots.length->VE s.Arena.Knots (AR s) i=i:=λi hi=>R3 (λj hj=>h.used j (by omega))
 have a:∀n:Int,n<(s.Arena.Knots.length:Int)->K9 s.Arena.Knots (AR s) n=n:=λn hn=>by
  unfold K9;split
  ·rw[c _ (by omega)];omega
  rfl
 have b:∀r∈AR s,K9 s.Arena.Knots (AR s) r=r:=λr hr=>by
  rcases BE (h.root r hr)with e|⟨h0,h1,_⟩
  ·rw[e,OR (by omega)]
  exact a r h1
 have d:Np s.Arena.Knots (AR s)=s.Arena.Knots:=by
  unfold Np;rw[List.filter_eq_self.2 (λi hi=>h.used i (by simpa using hi))];apply Cj;intro i;rw[AF];by_cases hi:i<s.Arena.Knots.length
  ·rw[Ny hi,Ad hi];simp only[Bt];congr 1;have h0:(0:Int)<=(i:Int):=by omega
   have h1:(i:Int)<(s.Arena.Knots.length:Int):=by omega
   unfold Tr
   cases hl:(Bo s.Arena.Knots (i:Int)).Leaf with
   |true=>
    simp only[Af];rw[<-hl,LZ hi]
   |false=>
    simp only[Ac];have:(Bo s.Arena.Knots (i:Int)).Kids.map (K9 s.Arena.Knots (AR s))=(Bo s.Arena.Knots (i:Int)).Kids:=by
     conv=>rhs;rw[<-kK (Bo s.Arena.Knots (i:Int)).Kids]
     apply C5;intro n hn;obtain⟨q,hq,rfl⟩:=AI hn;obtain⟨h4,hk⟩:=DL h.ar h0 h1;have e5:=(hk q (by omega)).1;rw[Ad hq]at e5
     injection e5 with e5
     rw[e5]
     rcases Eq h.ar h0 h1 hl (show q<4 by omega)with k1|⟨k1,k2,k3⟩
     ·rw[k1,OR (by omega)];rfl
     exact a _ (by omega)
    rw[this,<-hl,LZ hi]
  rw[Dq (by simpa using hi),Dq (by omega)];rfl
 unfold I2;rw[d];have:(s.Vols.map λv=>Vol.mk v.Id (K9 s.Arena.Knots (AR s) v.Root))=s.Vols:=by
  conv=>rhs;rw[<-kK s.Vols]
  apply C5;intro v hv;rw[b _ (AG.2 ⟨v,hv,rfl⟩)];rfl
 rw[this]
theorem nO (hs:s<16):O1 K r s∈G6 K r:=AG.2 ⟨s,by simpa using hs,rfl⟩
theorem LS {l:List Int} {x y:Int} (h:l.Pairwise (·<·)) (a:i<j) (hx:l[i]?=some x) (hy:l[j]?=some y):x<y:=by
 obtain⟨h1,rfl⟩:=Ag.1 hx;obtain⟨h2,rfl⟩:=Ag.1 hy;exact CL.1 h i j h1 h2 a
theorem SE {s:Store} (h:Dd s):Ff s=some true:=by
 have hl:=h.len;have hf:=h.few;have d:(AR s).length=s.Vols.length:=by unfold AR;rw[AQ]
 unfold Ff;rw[BT,Ae (by omega),Ac,FM _ (by omega),h.ar,IE,Ab h.nx];simp only[Aa,Ap,Ac];obtain⟨b,h1,h2⟩:=Bx (body:=λq:Int=>EC s q) (λ(_:Unit) i=>i) s.Vols.length (λ_ _=>True) (λb=>b= .inl ())
  (λ_ i hi _=>by
   have hx:=Ad hi;have hm:s.Vols[i]∈s.Vols:=Bm hi;have hr:s.Vols[i].Root∈AR s:=AG.2 ⟨_,hm,rfl⟩;simp only[EC,AD,Ab hi,Af,AA,hx,Aa];rw[IE,Ab (h.ids _ hm),JX _ (by omega),h.root _ hr];simp only[Aa,Ap,Ac];have a:(cond (decide ((i:Int)>0)) ((gi s.Vols (sb (i:Int) 1)).bind λx2=>cond (decide (x2.Id>=s.Vols[i].Id)) (some true) (some false)) (some false):Option Bool)=some false:=by
    by_cases h0:i=0
    ·rw[Ae (by omega:¬(i:Int)>0),Ac]
    rw[Ab (by omega:(i:Int)>0),Af,CB (by omega) (by omega),show(i:Int)-1=((i-1:Nat):Int) by omega,AA,Ad (by omega)];simp only[Aa];have:=LS h.asc (show i-1<i by omega) (x:=s.Vols[i-1].Id) (y:=s.Vols[i].Id) (by rw[AF,Ad (by omega)];rfl) (by rw[AF,Ad (by omega)];rfl);rw[Ae (by omega),Ac]
   rw[a];simp only[Aa,Ac];obtain⟨c,q1,q2⟩:=Bx (body:=λq:Int=>EB s s.Vols[i] q) (λ(_:Unit) i=>i) 16 (λ_ _=>True) (λb=>b= .inl ())
    (λ_ k hk _=>by
     simp only[EB];rw[Ab (by omega:(k:Int)<16),Af,SB _ h.ar (h.root _ hr) hk];simp only[Aa];have:=h.lt _ hr _ (nO hk);rw[Ae (by omega),Ac,ad1 (by omega)]
     exact .inl ⟨(),rfl,trivial⟩)
    (λ_ _=>⟨_,by simp only[EB];rw[Ae (by omega:¬((16:Nat):Int)<16),Ac],rfl⟩) (s:=()) trivial
   rw[q1,q2];simp only[Aa,B3];rw[ad1 (by omega)]
   exact .inl ⟨(),rfl,trivial⟩)
  (λ_ _=>⟨_,by simp only[EC,AD,An,As,Ac],rfl⟩) (s:=()) trivial
 rw[h1,h2];simp only[Aa,B3];rw[L5 s (by omega)];simp only[Aa];rw[PV _ (by omega) h.ar _ (by omega) h.root];simp only[Aa];have:Np s.Arena.Knots (AR s)=s.Arena.Knots:=by
  have:=TW h;unfold I2 at this;have:=Cq (λz=>z.Arena.Knots) this;exact this
 rw[this];simp
theorem Cs.two {z1:β->Nat} {z2:γ->Nat} {g1:β->Int->Option Int} {g2:γ->Int->Option Int} {y1:β} {y2:γ} {z:α->Nat} (h1:Cs z1 g1 y1) (h2:Cs z2 g2 y2) (hz:z x=z1 y1+z2 y2) (hf:∀left,f x left=(g1 y1 left).bind λv=>bif decide (v<0)then some (-1)else((g2 y2 v).bind λw=>bif decide (w<0)then some (-1)else some w)):Cs z f x:=by
 intro left h0 hm;obtain⟨v,k1,k2⟩:=h1 left h0 hm;rw[hf,k1,Aa,hz];split at k2
 ·rename_i hc;rw[Ae (by omega),Ac];obtain⟨w,k3,k4⟩:=h2 v (by omega) (by omega);rw[k3,Aa];split at k4
  ·rename_i hd;rw[Ae (by omega),Ac];exact⟨_,rfl,by rw[Ar (by omega)];omega⟩
  rename_i hd;rw[Ab k4,Af];exact⟨_,rfl,by rw[Au (by omega)];omega⟩
 rename_i hc;rw[Ab k2,Af];exact⟨_,rfl,by rw[Au (by omega)];omega⟩
theorem Cs.flat {f:List α->Int->Option Int} (hl:l.length<=9223372036854775807) (hf:∀left,f l left=bif decide (sb left (ln l)<0)then some (-1)else some (sb left (ln l))):Cs List.length f l:=by
 intro left h0 hm;rw[hf,CB (by rw[BT];omega) (by rw[BT];omega),BT];by_cases hc:(l.length:Int)<=left
 ·rw[Ae (by omega),Ac];exact⟨_,rfl,by rw[Ar hc]⟩
 rw[Ab (by omega),Af];exact⟨_,rfl,by rw[Au hc];omega⟩
def Iv (x:Knot):Nat:=x.Kids.length
def Ml (x:Arena):Nat:=zl Iv x.Knots
def EM (x:Store):Nat:=x.Vols.length+Ml x.Arena
def Hx (x:Device):Nat:=JE x.Flash+EM x.Store
theorem iO (x:Knot) (h:ZK x):Cs Iv Q8 x:=Cs.wrap (z:=List.length) (g:=N6) (Cs.flat h.2.1 (λ_=>rfl)) rfl (λ_=>rfl)
theorem cL (l:List Knot) (h:ol ZK l):Cs (zl Iv) RM l:=
 HQ (LK Iv Q8 l h.1 (λx hx=>iO x (h.2 x hx)) (λ_ _=>rfl) (λ_=>rfl))
theorem cO (x:Arena) (h:dO x):Cs Ml RO x:=Cs.wrap (cL x.Knots h) rfl (λ_=>rfl)
theorem cH (x:Store) (h:dM x):Cs EM RK x:=Cs.two (z1:=List.length) (g1:=TL) (Cs.flat h.1.1 (λ_=>rfl)) (cO x.Arena h.2.1) rfl (λ_=>rfl)
theorem Zj (x:Device) (h:XL x):Cs Hx Mp x:=Cs.two (cM x.Flash h.1) (cH x.Store h.2.1) rfl (λ_=>rfl)
theorem iK (l:List Vol) (h:l.length<=1048576):TJ l=some l:=Ji Tp l (by omega) (by omega) (λ_ _=>rfl) (λ_ _=>rfl) rfl
theorem Wg (l:List Int) (h:l.length<=1048576):Q4 l=some l:=Ji (λx=>some x) l (by omega) (by omega) (λ_ _=>rfl) (λ_ _=>rfl) rfl
theorem iL (x:Knot) (h:Iv x<=1048576):N2 x=some x:=by
 unfold N2;rw[Wg _ h];rfl
theorem b9 (l:List Knot) (h:zl Iv l<=1048576):RI l=some l:=by
 have:=D9 (z:=Iv) (l:=l);exact Ji N2 l (by omega) (by omega) (λx hx=>iL x (by have:=JD (z:=Iv) hx;omega)) (λ_ _=>rfl) rfl
theorem cC (x:Arena) (h:Ml x<=1048576):O9 x=some x:=by
 unfold O9;rw[b9 _ h];rfl
theorem bW (x:Store) (h:EM x<=1048576):O7 x=some x:=by
 unfold EM at h;unfold O7;rw[iK _ (by omega),Aa,cC _ (by omega)];rfl
theorem Zg (x:Device) (h:Hx x<=1048576):Mn x=some x:=by
 unfold Hx at h;unfold Mn;rw[cA _ (by omega),Aa,bW _ (by omega)];rfl
theorem nI (a b:Vol):Ds (Q9 a b) a b:=by
 cases a with
 |mk a1 a2=>
 cases b with
 |mk b1 b2=>
 have:JB (Q9 (Vol.mk a1 a2) (Vol.mk b1 b2)) (a1=b1/\a2=b2/\True):=DP (by simp) (DP (by simp) FY);simpa only[Ds,JB,Vol.mk.injEq,Ng]using this
theorem jU (a b:List Vol) (h:a.length<=1048576):Ds (TN a b) a b:=
 Hu Q9 a b (by omega) (λx _ y _=>nI x y) (λ_=>rfl) rfl
theorem WK (a b:List Int) (h:a.length<=1048576):Ds (QD a b) a b:=
 Hu (λx y=>some (!(x !=y))) a b (by omega) (λx _ y _=>⟨_,rfl,by simp⟩) (λi=>by
  unfold NB
  cases decide (i<ln a)with
  |false=>rfl
  |true=>
   simp only[Af]
   cases gi a i with
   |none=>rfl
   |some x=>
    cases gi b i with
    |none=>rfl
    |some y=>simp only[Aa,Bool.not_not]) rfl
theorem jX (a b:Knot) (h:Iv a<=1048576):Ds (NA a b) a b:=by
 cases a with
 |mk a1 a2=>
 cases b with
 |mk b1 b2=>
 have:JB (NA (Knot.mk a1 a2) (Knot.mk b1 b2)) (a1=b1/\a2=b2/\True):=DP (by cases a1<;>cases b1<;>simp) (Ec (WK a2 b2 h) FY);simpa only[Ds,JB,Knot.mk.injEq,Ng]using this
theorem eM (a b:List Knot) (h:zl Iv a<=1048576):Ds (RR a b) a b:=by
 have:=D9 (z:=Iv) (l:=a);exact Hu NA a b (by omega) (λx hx y _=>jX x y (by have:=JD (z:=Iv) hx;omega)) (λ_=>rfl) rfl
theorem eP (a b:Arena) (h:Ml a<=1048576):Ds (OF a b) a b:=by
 cases a with
 |mk a1=>
 cases b with
 |mk b1=>
 have:JB (OF (Arena.mk a1) (Arena.mk b1)) (a1=b1/\True):=Ec (eM a1 b1 h) FY;simpa only[Ds,JB,Arena.mk.injEq,Ng]using this
theorem eH (a b:Store) (h:EM a<=1048576):Ds (OD a b) a b:=by
 cases a with
 |mk a1 a2 a3=>
 cases b with
 |mk b1 b2 b3=>
 unfold EM at h;simp only at h;have:JB (OD (Store.mk a1 a2 a3) (Store.mk b1 b2 b3)) (a1=b1/\a2=b2/\a3=b3/\True):=Ec (jU a1 b1 (by omega)) (Ec (eP a2 b2 (by omega)) (DP (by simp) FY));simpa only[Ds,JB,Store.mk.injEq,Ng]using this
theorem aM (a b:Device) (h:Hx a<=1048576):Ds (Mq a b) a b:=by
 cases a with
 |mk a1 a2 a3 a4 a5=>
 cases b with
 |mk b1 b2 b3 b4 b5=>
 unfold Hx at h;simp only at h;have:JB (Mq (Device.mk a1 a2 a3 a4 a5) (Device.mk b1 b2 b3 b4 b5)) (a1=b1/\a2=b2/\a3=b3/\a4=b4/\a5=b5/\True):=Ec (eN a1 b1 (by omega)) (Ec (eH a2 b2 (by omega)) (DP (by simp) (DP (by simp) (DP (by simp) FY))));simpa only[Ds,JB,Device.mk.injEq,Ng]using this
end Go.TI
