/- What an ask makes of a drawn model. No condition; no program is in sight. -/
import Derived.Test.YtacibgiakaoomaaGreatMOD
set_option linter.unusedVariables false
set_option linter.unusedSimpArgs false
namespace Go.TI
open Go
def u32 (s:Int):Prop:=0<=s/\s<4294967296
theorem ZY (s:Int) (hs:u32 s):∃v,Ai (λs:Int×Int=>FL s.1 s.2) (s,0)=some v/\Ai (λs:Int×Int=>H1 s.1 s.2) (s,0)=some v/\u32 v:=
 Yg (body:=λs:Int×Int=>FL s.1 s.2) (body':=λs:Int×Int=>H1 s.1 s.2) (λ(s:Int) i=>(s,i)) 8 (λ_ s=>u32 s) u32
  (λs i hi hs=>by grind [tM,pV,ad1,mQ,FL,H1,u32])
  (λs hs=>by grind [FL,H1]) (s:=s) hs
theorem ZX (s:Int) (t:ByteArray) (hs:u32 s) (ht:(L t).length<=9223372036854775806):∃v,N5 s t=some v/\Qw s t=some v/\u32 v:=by
 obtain⟨v,h1,h2,h3⟩:=Yg (body:=λs:Int×Int=>Ho t s.1 s.2) (body':=λs:Int×Int=>Jk t s.1 s.2) (λ(s:Int) i=>(s,i)) (L t).length (λ_ s=>u32 s) u32
  (λs i hi hs=>by
   obtain⟨v,h1,h2,h3⟩:=ZY (xr s<|IntKind.u32.wrap ((L t)[i]).toNat)<|mQ _ _
   grind [DF,ad1,Ho,Jk])
  (λs hs=>by grind [Bf,Ho,Jk]) (s:=s) hs
 unfold N5 Qw
 grind
theorem YF (t:ByteArray) (ht:(L t).length<=9223372036854775806):∃v,Kh t=some v/\WE t=some v/\u32 v:=by
 obtain⟨v,h1,h2,h3⟩:=ZX 4294967295 t ⟨by omega,by omega⟩ ht;unfold Kh WE
 grind
def four (v:Int):ByteArray:=Gy [IntKind.u8.wrap<|Int.fdiv v<|2^(min (24:Int).toNat IntKind.u32.bits),IntKind.u8.wrap<|Int.fdiv v<|2^(min (16:Int).toNat IntKind.u32.bits),IntKind.u8.wrap<|Int.fdiv v<|2^(min (8:Int).toNat IntKind.u32.bits),IntKind.u8.wrap v]
theorem To (v:Int):(L (four v)).length=4:=by rfl
theorem eJ (t:ByteArray):Tf t=Hq t:=by
 unfold Tf Hq;by_cases h:(Fd t)>20000
 ·grind
 rw[Bf]at h;obtain⟨v,h1,h2,_⟩:=YF t (by omega);rw[h1,h2];rfl
theorem QE (t:ByteArray):(20000<(L t).length->Hq t=some (bs [],false))/\((L t).length<=20000->∃v,Kh t=some v/\Hq t=some (t++four v,true)):=by grind [Bf,YF,FB,To,Hq,HQ,four]
theorem YD (t:ByteArray) (ht:(L t).length<=9223372036854775806):∃u ok,HR t=some (u,ok)/\OJ t=some (u,ok)/\(ok=true->(L u).length<=20000/\∃v,Kh u=some v/\t=u++four v)/\(ok=false->u=bs []):=by
 unfold HR OJ;have e4:sb (Fd t) 4=((L t).length:Int)-4:=by rw[Bf,BH]
 rw[e4];by_cases h4:(L t).length<4
 ·simp_all [Bf];grind
 rw[Ag (by omega:¬((L t).length:Int)-4<0),Ag (by rw[Bf];omega:¬Fd t<4)];have en:((L t).length:Int)-4=(((L t).length-4:Nat):Int):=by omega
 rw[en,Bf];have b:sub t 0 (((L t).length-4:Nat):Int)=some (t.extract 0<|(L t).length-4):=Eh t (i:=0) (by omega) (by omega);have a:sub t (((L t).length-4:Nat):Int) ((L t).length:Int)=some (t.extract ((L t).length-4) (L t).length):=Eh t (by omega) (by omega);rw[b,a];simp only[Aa];have hu:(L<|t.extract 0<|(L t).length-4).length=(L t).length-4:=by rw[H6];simp
 obtain⟨k1,k2⟩:=QE<|t.extract 0<|(L t).length-4;rw[eJ];by_cases hb:20000<(L t).length-4
 ·grind
 obtain⟨v,h1,h2⟩:=k2 (by omega);rw[Ag (by omega:¬(((L t).length-4:Nat):Int)>20000),h1,h2];have h3:HQ v=some (four v):=rfl;simp only[Ad,Aa,h3,Ay];have c:seq (t.extract ((L t).length-4) (L t).length) (four v)=seq (t.extract 0 ((L t).length-4)++four v) t:=by
  rw[Mr,Mr,FE,H6,H6,Bool.eq_iff_iff,Br,Br];have e1:List.take ((L t).length-((L t).length-4)) (List.drop ((L t).length-4)<|L t)=(L t).drop ((L t).length-4):=AY (by simp);have e2:List.take ((L t).length-4-0) (List.drop 0<|L t)=(L t).take ((L t).length-4):=by simp
  rw[e1,e2];constructor
  ·grind [BF]
  grind
 grind [J4]
theorem GV (n:Nat) (h:n<=1099511627776):∃s,Gg (n:Int)=some s/\L s=B3 n:=by
 unfold Gg;obtain⟨m,o,h1,h2,h3,h4⟩:=V6 (body:=λs:Int×List Int=>MQ s.1 s.2) (λ_ _=>rfl) n [] (by simpa using h);rw[h1,Aa];have:IntKind.u8.wrap (m:Int)=m:=by rw[IntKind.wrap_u8];omega
 rw[this,B5 (by grind),Aa]
 grind [KG]
def mY (t:ByteArray) (at_:Int) (r:Int×Int×Bool):Prop:=(r.2.2=false/\r.1=0/\r.2.1=0)\/(r.2.2=true/\∃(a b n:Nat),at_=a/\r.2.1=b/\r.1=n/\a<b/\b<=(L t).length/\n<=1000000000/\B3 n=((L t).drop a).take (b-a))
theorem Sj (l:List UInt8) (a k:Nat) (h:a+k<l.length):(l.drop a).take (k+1)=(l.drop a).take k++ [l[a+k]]:=by grind [Af]
theorem Wz (k:Nat) (h:k<5):(128:Nat)^k<=268435456:=by
 have:k<=4:=by omega
 calc 128^k<=128^4:=Nat.pow_le_pow_right (by omega) this
  _=268435456:=by decide
theorem RB:∀ds:List UInt8,DR ds<128^ds.length
 |[]=>by simp[DR]
 |d::ds=>by
  have:=RB ds
  grind [DR]
theorem kH (x k:Nat) (hx:x<128) (hk:k<5):shl .i64 (x:Int) (ml 7 (k:Int))=some ((x*128^k:Nat):Int):=by
 have h7:ml 7 (k:Int)=((7*k:Nat):Int):=by grind [KT]
 unfold shl;rw[h7,AA<|by omega];have e:(2:Int)^(min ((7*k:Nat):Int).toNat IntKind.i64.bits)=((128^k:Nat):Int):=by
  have hb:IntKind.i64.bits=64:=rfl;have h128:(128:Nat)^k=2^(7*k):=by rw[Nat.pow_mul]
  grind
 rw[e];have hp:=Wz k hk;have hm:x*128^k<=128*268435456:=Ux (by omega) hp
 grind [KH]
theorem aN (x:Nat):Int.tmod (x:Int) 128=((x %128:Nat):Int):=rfl
theorem Ie (t:ByteArray) (at_:Int) (ht:(L t).length<=4611686018427387904) (v:oI at_):∃r,GM t at_=some r/\KZ t at_=some r/\mY t at_ r:=by
 have fails:∀(at_:Int),(at_<0\/((L t).length:Int)<=at_)->oI at_->KZ t at_=some (0,0,false):=by grind [Aw,Bf,BH,KZ,FP]
 by_cases w:0<=at_/\at_<(L t).length
 ·obtain⟨a,rfl⟩:=DQ w.1;have y:∀(B1:Int×Int×Int->Option ((Int×Int×Int)⊕Unit⊕(Int×Int×Bool))) (B2:Int×Int->Option ((Int×Int)⊕Unit⊕(Int×Int×Bool))),(∀n sc i,B1 (n,sc,i)=Cq t (a:Int) n sc i)->(∀n k,B2 (n,k)=FP t (a:Int) n k)->∀(m k:Nat),k+m=5->a+k<=(L t).length->(∀d∈((L t).drop a).take k,128<=d.toNat)->
    ∃r,(Ai B1 (((DR (((L t).drop a).take k):Nat):Int),((128^k:Nat):Int),((a+k:Nat):Int))=some r/\Ai B2 (((DR (((L t).drop a).take k):Nat):Int),(k:Int))=some r)/\(r= .inl ()\/∃q,r= .inr q/\mY t (a:Int) q):=by
   intro B1 B2 z h0 m
   induction m with
   |zero=>grind [Aw,BN,Cq,FP]
   |succ m ih=>
    intro k hk h9 hd;rw[Aw,Aw B2];simp only[z,h0,Cq,FP];have j:k<5:=by omega
    rw[BN (b:=5) (by omega) (by omega),Ac (by omega:((a+k:Nat):Int)<(a:Int)+5),Ac (by omega:(k:Int)<5),Ac (by omega:(a:Int)>=0),Bf,BH];by_cases l:a+k<(L t).length
    ·rw[Ac (by omega:((a+k:Nat):Int)<((L t).length:Int)),Ac (by omega:(a:Int)<((L t).length:Int)-k)];have eak:ad (a:Int) (k:Int)=((a+k:Nat):Int):=by rw[BN];omega
     simp only[Ah,Aa,DF t l,eak];have hx:=Xp<|(L t)[a+k];have f:=Sj (L t) a k l;have o:(((L t).drop a).take k).length=k:=by simp;omega
     have g:=Kb (((L t).drop a).take k) [(L t)[a+k]];rw[<-f,o]at g;have h4:=RB<|((L t).drop a).take k;rw[o]at h4;have hp:=Wz k j;generalize a0:(L t)[a+k]=x at hx f g;simp only[DR,Nat.mul_zero,aD]at g;have hw:IntKind.i64.wrap (x.toNat:Int)=x.toNat:=KH (by omega) (by omega);have h7:x.toNat %128*128^k<=127*268435456:=Ux (by omega) hp;have emul:ml ((x.toNat %128:Nat):Int) ((128^k:Nat):Int)=((x.toNat %128*128^k:Nat):Int):=by grind [KT]
     have enew:ad (((DR (((L t).drop a).take k):Nat)):Int) ((x.toNat %128*128^k:Nat):Int)=((DR (((L t).drop a).take<|k+1):Nat):Int):=by grind [BN]
     rw[hw,aN,kH _ k (by omega) j];simp only[Aa,emul,enew];by_cases h:x.toNat<128
     ·rw[Ac (by omega:(x.toNat:Int)<128),Ag (by omega:¬(x.toNat:Int)>=128)];have ek1:ad ((a+k:Nat):Int) 1=((a+k+1:Nat):Int):=ad1 (by omega);have c:=V5 (((L t).drop a).take k) x hd h;rw[<-f]at c;have h5:(((L t).drop a).take k≠ [])↔0<k:=by grind
      rw[h5]at c;have p:sub t (a:Int) ((a+k+1:Nat):Int)=some (t.extract a<|a+k+1):=Eh t (by omega) (by omega);rw[ek1,p];by_cases h8:DR (((L t).drop a).take<|k+1)>1000000000
      ·rw[Ac (by omega:((DR (((L t).drop a).take<|k+1):Nat):Int)>1000000000)];refine⟨.inr (0,0,false),⟨rfl,?_⟩,.inr ⟨_,rfl,.inl ⟨rfl,rfl,rfl⟩⟩⟩
       grind
      rw[Ag (by omega:¬((DR (((L t).drop a).take<|k+1):Nat):Int)>1000000000)];obtain⟨s,h6,a1⟩:=GV (DR<|((L t).drop a).take<|k+1) (by omega);simp only[Ad,Aa,h6];have u:seq s (t.extract a<|a+k+1)=decide (¬(x.toNat=0/\0<k)):=by grind [Mr,H6]
      rw[u];by_cases hz:x.toNat=0/\0<k
      ·rw[Ag λe=>e hz];refine⟨.inr (0,0,false),⟨rfl,?_⟩,.inr ⟨_,rfl,.inl ⟨rfl,rfl,rfl⟩⟩⟩
       grind
      rw[Ac hz];refine⟨.inr (((DR (((L t).drop a).take<|k+1):Nat):Int),((a+k+1:Nat):Int),true),⟨rfl,?_⟩,.inr ⟨_,rfl,.inr ⟨rfl,a,a+k+1,_,rfl,rfl,rfl,by omega,by omega,by omega,?_⟩⟩⟩
      ·grind
      grind
     rw[Ag (by omega:¬(x.toNat:Int)<128),Ac (by omega:(x.toNat:Int)>=128)];have e1:ml ((128^k:Nat):Int) 128=((128^(k+1):Nat):Int):=by grind [KT]
     have e2:ad ((a+k:Nat):Int) 1=((a+(k+1):Nat):Int):=ad1 (by omega);have e3:ad (k:Int) 1=((k+1:Nat):Int):=ad1 (by omega);rw[e1,e2,e3];exact ih (k+1) (by omega) (by omega)<|by grind
    grind
  obtain⟨r,⟨h1,h2⟩,h3⟩:=y (λs=>Cq t (a:Int) s.1 s.2.1 s.2.2) (λs=>FP t (a:Int) s.1 s.2) (λ_ _ _=>rfl) (λ_ _=>rfl) 5 0 rfl (by omega) (by simp);unfold GM KZ;have hw:Bj (a:Int) 0 (Fd t)=some true:=by grind [Bf,Bj]
  rw[hw];simp only[List.take_zero,DR,Nat.pow_zero,aD]at h1 h2;rw[show((0:Nat):Int)=0 from rfl,show((1:Nat):Int)=1 from rfl]at h1;rw[show((0:Nat):Int)=0 from rfl]at h2;rw[h1,h2]
  rcases h3 with rfl|⟨q,rfl,h3⟩
  ·exact⟨_,rfl,rfl,.inl ⟨rfl,rfl,rfl⟩⟩
  grind
 have hf:=fails at_ (by omega) v;refine⟨(0,0,false),?_,hf,.inl ⟨rfl,rfl,rfl⟩⟩;unfold GM
 grind [Bf,Aw,Bj,Cq]
theorem Yv:LY=Bj:=rfl
variable {r n x y:Int} {R l:List Int} {i j k:Nat} {s:Store} {α γ:Type} {v:Vol} {p:Nat->Bool} {f:Flash}
theorem C6 {l:List α} {i:Int} {x:α} (h:gi l i=some x):0<=i/\l[i.toNat]?=some x:=by grind [gi]
def Uv (f:Flash):Prop:=f.Blocks.length<=1048576/\∀b∈f.Blocks,b.Leaves.length<=1048576
theorem Tb (x a b:Int):Bj x a b=some (decide (a<=x)&&decide (x<=b)):=by
 unfold Bj
 grind
theorem QG (p:Page):∃v,Hu p=some v/\Th p=some v/\(v=true->(p.Kind=1\/p.Kind=2)/\(1<=p.Seq/\p.Seq<=1000000000)/\(1<=p.Tx/\p.Tx<=1000000000)/\(1<=p.Count/\p.Count<=9)/\(0<=p.Part/\p.Part<p.Count)/\Fd p.Text<=90):=by
 unfold Hu Th;rw[Yv];simp only[Tb,Aa];by_cases h1:1<=p.Seq/\p.Seq<=1000000000
 ·by_cases h2:1<=p.Tx/\p.Tx<=1000000000
  ·by_cases h3:1<=p.Count/\p.Count<=9
   ·have e:sb p.Count 1=p.Count-1:=BH (by omega) (by omega);rw[e];by_cases h4:0<=p.Part/\p.Part<=p.Count-1
    ·by_cases h5:Fd p.Text>90
     ·simp_all
     by_cases k2:p.Kind=2
     ·exact⟨true,by grind,by grind,λ_=>⟨.inr k2,h1,h2,h3,⟨h4.1,by omega⟩,by omega⟩⟩
     by_cases k1:p.Kind=1
     ·exact⟨p.Count==1,by grind,by grind,λ_=>⟨.inl k1,h1,h2,h3,⟨h4.1,by omega⟩,by omega⟩⟩
     have hk:(decide (1<=p.Kind)&&decide (p.Kind<=2))=false:=by grind
     exact⟨false,by simp[hk],by grind,by simp⟩
    refine⟨false,?_,?_,by simp⟩
    ·grind
    grind
   have e3:(decide (1<=p.Count)&&decide (p.Count<=9))=false:=by grind
   refine⟨false,?_,?_,by simp⟩
   ·grind
   grind
  have e2:(decide (1<=p.Tx)&&decide (p.Tx<=1000000000))=false:=by grind
  refine⟨false,?_,?_,by simp⟩
  ·grind
  simp[h1,e2]
 have e1:(decide (1<=p.Seq)&&decide (p.Seq<=1000000000))=false:=by grind
 refine⟨false,?_,?_,by simp⟩
 ·grind
 simp[e1]
def Vl:Page:=Page.mk 0 0 0 0 0<|bs []
theorem F6 (u:ByteArray) (a:Int) (hu:(L u).length<=20000) (ha:oI a):CX (EB.mk u a true)=some (0,EB.mk u a true):=by grind [Ie,CX]
theorem GU {r:Int×Int×Bool} (u:ByteArray) (a:Int) (hu:(L u).length<=20000) (h:GM u a=some r):CX (EB.mk u a false)=some (cond r.2.2 (r.1,EB.mk u r.2.1 false) (0,EB.mk u a true)):=by
 unfold CX
 grind
theorem ZM {a b:Nat} (l:List UInt8) (h:a<=b):l.drop a=(l.drop a).take (b-a)++l.drop b:=by
 have:=(BF (b-a)<|l.drop a).symm;rw[De,show a+(b-a)=b by omega]at this;exact this
theorem Ry (p:Page) (u:ByteArray) (k:UInt8) (n1 n2 n3 n4:Nat) (hp:Hu p=some true) (hk:p.Kind=(k.toNat:Int)) (h1:p.Seq=n1) (h2:p.Tx=n2) (h3:p.Part=n3) (h4:p.Count=n4) (b1:n1<=1000000000) (b2:n2<=1000000000) (b3:n3<=1000000000) (b4:n4<=1000000000) (hu:(L u).length<=20000) (e:L u=[k]++B3 n1++B3 n2++B3 n3++B3 n4++L p.Text):D4 p=Hq u:=by
 obtain⟨s1,q1,r1⟩:=GV n1 (by omega);obtain⟨s2,q2,r2⟩:=GV n2 (by omega);obtain⟨s3,q3,r3⟩:=GV n3 (by omega);obtain⟨s4,q4,r4⟩:=GV n4 (by omega);have hl:=Ob List.length e;have hb:Jq p.Kind=some (Gy [IntKind.u8.wrap p.Kind]):=rfl;have a:L (Gy [IntKind.u8.wrap p.Kind])=[k]:=by grind [KG,IntKind.wrap_u8,Xp,UInt8.ofNat_toNat]
 unfold D4;rw[hp];simp only[Aa,Ay,Ad,hb,h1,h2,h3,h4,q1,q2,q3,q4];rw[FB _ _ (by grind),Aa,FB _ _ (by grind [FE]),Aa,FB _ _ (by grind [FE]),Aa,FB _ _ (by grind [FE]),Aa,FB _ _ (by grind [FE]),Aa];have:Gy [IntKind.u8.wrap p.Kind]++s1++s2++s3++s4++p.Text=u:=by grind [H5,FE]
 rw[this]
 cases Hq u with
 |none=>rfl
 |some v=>rfl
theorem GY (t:ByteArray) (ht:(L t).length<=9223372036854775806):∃p ok,D3 t=some (p,ok)/\OL t=some (p,ok)/\(ok=false->p=Vl)/\(ok=true->Hu p=some true):=by
 obtain⟨u,uok,j,k,m,n⟩:=YD t ht;unfold D3 OL;rw[j,k];simp only[Aa];have o1:oI 1:=⟨by omega,by omega⟩
 cases uok with
 |false=>
  have:=n rfl;subst this;have hz:(L<|bs []).length<=20000:=by rw[D0];simp
  exact⟨Vl,false,rfl,rfl,λ_=>rfl,by simp⟩
 |true=>
  obtain⟨e,v,hv,q⟩:=m rfl;simp only[Ay,Ad,Aa];by_cases he:(L u).length<1
  ·have g:seq u (bs [])=true:=by grind [Mr,D0]
   simp_all [Bf,F6,Vl]
  have g:seq u (bs [])=false:=by grind [Mr,D0]
  rw[Ag (by rw[Bf];omega:¬Fd u<1),g];simp only[Ad];have four_:∀(B:Int×Int×Int×Int×Int×Int->Option ((Int×Int×Int×Int×Int×Int)⊕(Int×Int×Int×Int×Int)⊕(Page×Bool))),(∀x y a b c d,B (x,y,a,b,c,d)=Dx (u,true) x y a b c d)->
    ∃(a:Int) (m1 m2 m3 m4:Int) (bad:Bool),(∃c1 c2 c3,CX (EB.mk u 1 false)=some (m1,c1)/\CX c1=some (m2,c2)/\CX c2=some (m3,c3)/\CX c3=some (m4,EB.mk u a bad))/\
     Ai B (1,0,0,0,0,0)=some (bif bad then .inr (Vl,false)else .inl (a,m1,m2,m3,m4))/\(bad=false->∃(a1 a2 a3 a4 n1 n2 n3 n4:Nat),m1=n1/\m2=n2/\m3=n3/\m4=n4/\a=a4/\1<a1/\a1<a2/\a2<a3/\a3<a4/\a4<=(L u).length/\n1<=1000000000/\n2<=1000000000/\n3<=1000000000/\n4<=1000000000/\
      B3 n1=((L u).drop 1).take (a1-1)/\B3 n2=((L u).drop a1).take (a2-a1)/\B3 n3=((L u).drop a2).take (a3-a2)/\B3 n4=((L u).drop a3).take (a4-a3)):=by
   intro B hB;obtain⟨r1,p1,q1,w1⟩:=Ie u 1 (by omega) o1;have g1:=GU u 1 e p1;rw[Aw,hB];unfold Dx;rw[cT,q1,Aa]
   rcases w1 with⟨w1,w2,w3⟩|⟨w1,a0',a1,n1,z0,z1,z2,z3,z4,z5,z6⟩
   ·rw[w1]at g1⊢;exact⟨1,0,0,0,0,true,⟨_,_,_,g1,F6 u 1 e o1,F6 u 1 e o1,F6 u 1 e o1⟩,rfl,by simp⟩
   have ea0:a0'=1:=by omega
   subst ea0;rw[w1]at g1⊢;have x1:oI r1.2.1:=⟨by omega,by omega⟩;simp only[Ay,Ad,Ah]at g1⊢;rw[show((0:Int)==0)=true from rfl,Ah,show ad 0 1=1 from ad1 (i:=0)<|by omega];simp only;obtain⟨r2,p2,q2,y1⟩:=Ie u r1.2.1 (by omega) x1;have g2:=GU u r1.2.1 e p2;rw[Aw,hB];unfold Dx;rw[cT,q2,Aa]
   rcases y1 with⟨y1,_,_⟩|⟨y1,b0,a2,n2,y2,y3,y4,y5,y6,y7,y8⟩
   ·rw[y1]at g2⊢;exact⟨r1.2.1,r1.1,0,0,0,true,⟨_,_,_,g1,g2,F6 u _ e x1,F6 u _ e x1⟩,rfl,by simp⟩
   have eb:b0=a1:=by omega
   subst eb;rw[y1]at g2⊢;have x2:oI r2.2.1:=⟨by omega,by omega⟩;simp only[Ay,Ad,Ah]at g2⊢;rw[show((1:Int)==0)=false from rfl,Ad,show((1:Int)==1)=true from rfl,Ah,show ad 1 1=2 from ad1 (i:=1)<|by omega];simp only;obtain⟨r3,p3,q3,k1⟩:=Ie u r2.2.1 (by omega) x2;have g3:=GU u r2.2.1 e p3;rw[Aw,hB];unfold Dx;rw[cT,q3,Aa]
   rcases k1 with⟨k1,_,_⟩|⟨k1,c0,a3,n3,k2,k3,k4,k5,k6,k7,k8⟩
   ·rw[k1]at g3⊢;exact⟨r2.2.1,r1.1,r2.1,0,0,true,⟨_,_,_,g1,g2,g3,F6 u _ e x2⟩,rfl,by simp⟩
   have ec:c0=a2:=by omega
   subst ec;rw[k1]at g3⊢;have x3:oI r3.2.1:=⟨by omega,by omega⟩;simp only[Ay,Ad,Ah]at g3⊢;rw[show((2:Int)==0)=false from rfl,Ad,show((2:Int)==1)=false from rfl,Ad,show((2:Int)==2)=true from rfl,Ah,show ad 2 1=3 from ad1 (i:=2)<|by omega];simp only;obtain⟨r4,p4,q4,l1⟩:=Ie u r3.2.1 (by omega) x3;have g4:=GU u r3.2.1 e p4;rw[Aw,hB];unfold Dx;rw[cT,q4,Aa]
   rcases l1 with⟨l1,_,_⟩|⟨l1,d0,a4,n4,l2,l3,l4,l5,l6,l7,l8⟩
   ·rw[l1]at g4⊢;exact⟨r3.2.1,r1.1,r2.1,r3.1,0,true,⟨_,_,_,g1,g2,g3,g4⟩,rfl,by simp⟩
   have ed:d0=a3:=by omega
   subst ed;rw[l1]at g4⊢;simp only[Ay,Ad,Ah]at g4⊢;rw[show((3:Int)==0)=false from rfl,Ad,show((3:Int)==1)=false from rfl,Ad,show((3:Int)==2)=false from rfl,Ad,show((3:Int)==3)=true from rfl,Ah,show ad 3 1=4 from ad1 (i:=3)<|by omega];simp only;rw[Aw,hB];unfold Dx;rw[cF];exact⟨r4.2.1,r1.1,r2.1,r3.1,r4.1,false,⟨_,_,_,g1,g2,g3,g4⟩,rfl,λ_=>⟨b0,c0,d0,a4,n1,n2,n3,n4,z2,y4,k4,l4,l3,z3,y5,k5,l5,l6,z5,y7,k7,l7,z6,y8,k8,l8⟩⟩
  obtain⟨a,m1,m2,m3,m4,bad,⟨c1,c2,c3,f1,f2,f3,f4⟩,f5,f6⟩:=four_ (λs:Int×Int×Int×Int×Int×Int=>Dx (u,true) s.1 s.2.1 s.2.2.1 s.2.2.2.1 s.2.2.2.2.1 s.2.2.2.2.2) λ_ _ _ _ _ _=>rfl;rw[f5];simp only[f1,f2,f3,f4,Aa]
  cases bad with
  |true=>grind [Vl]
  |false=>
   obtain⟨a1,a2,a3,a4,n1,n2,n3,n4,rfl,rfl,rfl,rfl,rfl,i1,i2,i3,i4,i5,j1,j2,j3,j4,s1,s2,s3,s4⟩:=f6 rfl;simp only[Ad,Aa,Ic];have o:sx u 0=some (((L u)[0]'(by omega)).toNat:Int):=DF u (i:=0) (by omega);have h:sub u (a4:Int) (Fd u)=some (u.extract a4 (L u).length):=by grind [Bf,Eh]
   rw[o,h];simp only[Aa];have hk:=Xp ((L u)[0]'(by omega));have hw:IntKind.i64.wrap (((L u)[0]'(by omega)).toNat:Int)=((L u)[0]'(by omega)).toNat:=KH (by omega) (by omega);rw[hw];obtain⟨po,po1,po2,_⟩:=QG (Page.mk (((L u)[0]'(by omega)).toNat:Int) n1 n2 n3 n4<|u.extract a4 (L u).length);rw[po2]
   cases po with
   |false=>
    have:D4 (Page.mk (((L u)[0]'(by omega)).toNat:Int) n1 n2 n3 n4<|u.extract a4 (L u).length)=some (bs [],false):=by grind [D4]
    rw[this];simp[Vl]
   |true=>
    have hT:L (u.extract a4 (L u).length)=(L u).drop a4:=by grind [H6,AY]
    have f:L u=[(L u)[0]'(by omega)]++B3 n1++B3 n2++B3 n3++B3 n4++L (u.extract a4 (L u).length):=by
     rw[hT,s1,s2,s3,s4];have h0:L u=[(L u)[0]'(by omega)]++(L u).drop 1:=by
      have:=AS (l:=L u) (i:=0) (by omega);simpa using this
     grind [ZM]
    rw[Ry _ u ((L u)[0]'(by omega)) n1 n2 n3 n4 po1 rfl rfl rfl rfl rfl j1 j2 j3 j4 e f];obtain⟨v',hv',hs'⟩:=(QE u).2 e;rw[hv]at hv'
    injection hv' with hv'
    subst hv';rw[hs',Aa];have:seq (u++four v) t=true:=by grind [J4]
    simp only[Ay,Ad,Aa,this]
    grind
def U7 (x:Leaf):Nat:=x.Text.size
def MB (x:Block):Nat:=zl U7 x.Leaves
def MA (x:Flash):Nat:=zl MB x.Blocks
theorem mE (f:Flash) (h:MA f<=1048576):Uv f/\∀b∈f.Blocks,∀x∈b.Leaves,(L x.Text).length<=1048576:=by
 have h1:=eX (z:=MB) (l:=f.Blocks);unfold MA at h;refine⟨⟨by omega,λb hb=>?_⟩,λb hb x hx=>?_⟩
 ·grind [eW,MB,zl]
 grind [eW,TN,MB,U7]
def nl (l:List Block):Nat:=(l.map λb=>b.Leaves.length).sum
theorem qK (f:Flash):nl f.Blocks<=MA f:=by
 unfold nl MA zl;have:∀l:List Block,(l.map λb=>b.Leaves.length).sum<=(l.map MB).sum:=by
  intro l
  induction l with
  |nil=>simp
  |cons b l ih=>grind [MB,zl]
 grind
def Nk (f:Flash) (y:Ak):Prop:=∃b x,gi f.Blocks y.Block=some b/\gi b.Leaves y.Leaf=some x/\(x.Is==1)=true/\D3 x.Text=some (y.Page,true)
theorem Rx {b:Block} {x:Leaf} (f:Flash) (hf:Uv f) (hb:f.Blocks[i]?=some b) (hx:b.Leaves[k]?=some x):L5 f i k=some (cond (x.Is==1) (x.Text,true) (bs [],false)):=by
 have h1:=(Ae.1 hb).1;have h2:=(Ae.1 hx).1;have h3:=hf.1;have h4:=hf.2 b<|Am hb;unfold L5;rw[BH (by rw[Bu];omega) (by rw[Bu];omega),Tb,Bu,Ac (by omega:(0:Int)<=(i:Int)),Ac (by omega:(i:Int)<=(f.Blocks.length:Int)-1)];simp only[Aa,Bool.and_self,Ay,Ad,Ar,hb];rw[BH (by rw[Bu];omega) (by rw[Bu];omega),Tb,Bu,Ac (by omega:(0:Int)<=(k:Int)),Ac (by omega:(k:Int)<=(b.Leaves.length:Int)-1)]
 grind
theorem T3 (f:Flash) (hf:Uv f) (hT:∀b∈f.Blocks,∀x∈b.Leaves,(L x.Text).length<=1048576) (hn:nl f.Blocks<=1048576):
  ∃X,Ai (λs:List Ak×Int=>CP f s.1 s.2) ([],0)=some X/\Ai (λs:Int×List Ak=>H3 f s.1 s.2) (0,[])=some X/\X.length<=nl f.Blocks/\∀y∈X,Nk f y:=by
 refine KU (body:=λs:List Ak×Int=>CP f s.1 s.2) (body':=λs:Int×List Ak=>H3 f s.1 s.2) (λs i=>(s,i)) (λs i=>(i,s)) f.Blocks.length (λi a=>a.length<=((f.Blocks.take i).map λb=>b.Leaves.length).sum/\∀y∈a,Nk f y) (λX=>X.length<=nl f.Blocks/\∀y∈X,Nk f y) ?_ ?_ (s:=[]) ⟨by simp,by simp⟩
 ·intro a i hi ⟨c,d⟩;have hb:f.Blocks[i]?=some f.Blocks[i]:=Ab hi;have hm:f.Blocks[i]∈f.Blocks:=A4 _;have h:=MF (λb:Block=>b.Leaves.length) f.Blocks i hi;have j:=Kc (λb:Block=>b.Leaves.length) f.Blocks<|i+1;unfold nl at hn;have l:=hf.1;refine .inl ?_;simp only[CP,H3,FN hi,Ar,hb,Aa];obtain⟨u,q1,q2,q3⟩:=KU (body:=λs:List Ak×Int=>DV f (i:Int) s.1 s.2) (body':=λs:Int×List Ak=>Jl (i:Int) f.Blocks[i] s.1 s.2) (λs i=>(s,i)) (λs i=>(i,s)) f.Blocks[i].Leaves.length (λk u=>u.length<=a.length+k/\∀y∈u,Nk f y) (λu=>u.length<=a.length+f.Blocks[i].Leaves.length/\∀y∈u,Nk f y)
   (λu k hk hu=>by
    have hx:f.Blocks[i].Leaves[k]?=some f.Blocks[i].Leaves[k]:=Ab hk
    have g:∀y:Ak,ap 72 u [y]=some (u++ [y]):=λy=>B5<|by grind
    refine .inl ?_;obtain⟨p,ok,r1,r2,r3,r4⟩:=GY f.Blocks[i].Leaves[k].Text (by grind);simp only[DV,Jl,FN hk,Ar,hb,hx,Aa,Rx f hf hb hx,r2,g]
    cases e:f.Blocks[i].Leaves[k].Is==1 with
    |false=>grind [GY,D0,ad1]
    |true=>
     simp only[Ah,Aa,r1]
     cases ok with
     |false=>grind [ad1]
     |true=>
      refine⟨u++ [Ak.mk i k p],by grind [ad1],by grind [ad1],by grind,λy hy=>?_⟩
      rcases Aq.1 hy with hy|hy
      ·exact hu.2 y hy
      rw[Bs]at hy;subst hy
      exact⟨_,_,by simp only[Ar];exact hb,by grind [Ar],e,r1⟩)
   (λu hu=>⟨u,by simp_all [Ar,Fe,DV],by simp[Fe,Jl],hu⟩) (s:=a) ⟨by omega,d⟩
  grind [ad1]
 intro a ⟨c,d⟩;refine⟨a,by simp[Fe,CP],by simp[Fe,H3],?_,d⟩;rw[Ig]at c;exact c
theorem WF {l:List γ} {i j:Int} {x y:γ} (h:gi l j=some y):∃z,gi (si l i x) j=some z:=by grind [gi,si]
theorem YX (l:List Ak) (k:Int):Hr l k=(AR (Mt BQ) 0 k l).map (Sum.map (λs=>(s.2,s.1)) id):=by
 unfold Hr AR jT cL
 cases hk:decide (k>0)with
 |false=>rfl
 |true=>
  cases h1:gi l (sb k 1)with
  |none=>simp
  |some x=>
   cases h2:gi l k with
   |none=>simp
   |some y=>
    simp only[Aa];have e:(decide<|x.Page.Seq>y.Page.Seq)=Mt BQ y x:=rfl;rw[e]
    cases Mt BQ y x with
    |false=>rfl
    |true=>
     obtain⟨z,hz⟩:=WF (i:=k) (x:=x) h1
     grind
theorem kB {l l':List γ} {i j:Int} (h:cL l i j=some l'):l'.length=l.length:=by grind [Aj,cL,si]
theorem lS {a j:Int} {l r:List Ak} (h:Ai (λs:Int×List Ak=>AR (Mt BQ) a s.1 s.2) (j,l)=some r):r.length=l.length:=by
 refine dN (λs:Int×List Ak=>s.2.length=l.length) (λr=>r.length=l.length) ?_ ?_ (s:=(j,l)) rfl h
 ·rintro⟨j,m⟩ s' hm hb;obtain⟨c,_,hb⟩:=Aj.1 hb
  grind [Aj,kB]
 rintro⟨j,m⟩ b hm hb;obtain⟨c,_,hb⟩:=Aj.1 hb
 grind [Aj]
theorem TF (f:Flash) (hf:Uv f) (hT:∀b∈f.Blocks,∀x∈b.Leaves,(L x.Text).length<=1048576) (hn:nl f.Blocks<=1048576):
  ∃r,DN f=some r/\HZ f=some r/\r.length<=nl f.Blocks/\(∀y∈r,Nk f y)/\srt BQ r:=by
 obtain⟨X,h1,h2,h3,h4⟩:=T3 f hf hT hn;obtain⟨r,h5,h6,h7⟩:=UK BQ X (by omega);obtain⟨r',h8,h9,h10⟩:=HY BQ [] X [] (by grind);have hr:r'=r:=O3 BQ h9 h6 (λk=>by rw[h7 k,<-h10 k]);subst hr;refine⟨r',?_,?_,?_,?_,h6⟩
 ·unfold DN;rw[h1,Aa];simp only[Ao,AQ,IW,aC]at h8;unfold Cu at h8;have hc:Ai (λs:List Ak×Int=>Hs s.1 s.2) (X,1)=Ai (λs:Int×List Ak=>AZ (Mt BQ) ((0:Nat):Int) (X.length:Int) s.1 s.2) (1,X):=by
   refine Yh (body:=λs:Int×List Ak=>AZ (Mt BQ) ((0:Nat):Int) (X.length:Int) s.1 s.2) (body':=λs:List Ak×Int=>Hs s.1 s.2) (λs=>(s.2,s.1)) (λs=>s.2.length=X.length) ?_ ?_ (1,X) rfl
   ·rintro⟨j,m⟩ hm;simp only[Hs,AZ,Bu,hm]
    cases decide (j<(X.length:Int))with
    |false=>rfl
    |true=>
     rw[Z9 (body:=λs:Int×List Ak=>AR (Mt BQ) ((0:Nat):Int) s.1 s.2) (body':=λs:List Ak×Int=>Hr s.1 s.2) (λs=>(s.2,s.1)) (λs=>YX s.2 s.1) (j,m)];cases Ai (λs:Int×List Ak=>AR (Mt BQ) ((0:Nat):Int) s.1 s.2) (j,m)<;>rfl
   rintro⟨j,m⟩ s' hm hb;simp only[AZ]at hb
   cases hc:decide (j<(X.length:Int))with
   |false=>grind
   |true=>
    rw[hc,Ah]at hb;obtain⟨m',h1,hb⟩:=Aj.1 hb
    injection hb with hb
    injection hb with hb
    subst hb;exact(lS h1).trans hm
  rw[hc];exact h8
 ·unfold HZ
  grind
 ·grind [Bi.len]
 grind [Bi.mem]
theorem P6 {S:Type} {body:S->Option (S⊕List α)} (a:List α->Int->S) (g:Nat->α->α) (l0:List α) (h1:∀(i:Nat) (l:List α) x,l.length=l0.length->l[i]?=some x->l0[i]?=some x->body (a l (i:Nat))=some (.inl (a (l.set i (g i x)) ((i+1:Nat):Int)))) (h2:∀l:List α,l.length=l0.length->body (a l (l0.length:Nat))=some (.inr l)):Ai body (a l0 0)=some (l0.mapIdx g):=by
 obtain⟨b,h3,h4⟩:=AG (body:=body) a l0.length (λi l=>l.length=l0.length/\∀j,l[j]?=if j<i then(l0[j]?).map (g j)else l0[j]?) (λb=>b=l0.mapIdx g)
  (λl i hi hs=>by
   obtain⟨hl,hs⟩:=hs;have c:l0[i]?=some l0[i]:=Ab hi
   grind)
  (λl hs=>⟨l,h2 l hs.1,by
   apply BB
   grind⟩) (s:=l0) ⟨rfl,λj=>by rfl⟩
 rw[h3,h4]
abbrev Ks:=List BL
def dk:BL:=BL.mk true []
def BP (K:Ks) (i:Int):BL:=(gi K i).getD dk
def M2 (k:BL) (j:Nat):Int:=(k.Kids[j]?).getD 0
def M1 (K:Ks) (i:Nat) (leaf:Bool) (n:Int):Bool:=bif leaf then decide (0<=n)else(n== -1||(decide (0<=n/\n<=(i:Int)-1)&&(BP K n).Leaf))
def Cm (K:Ks):Bool:=K.zipIdx.all λz=>z.1.Kids.length==4&&z.1.Kids.all (M1 K z.2 z.1.Leaf)
def CG (K:Ks) (r:Int):Bool:=r== -1||(decide (0<=r/\r<(K.length:Int))&&!(BP K r).Leaf)
def Ns (K:Ks) (root:Int) (s:Nat):Int:=if root<0 then 0 else if M2 (BP K root) (s/4)<0 then 0 else M2 (BP K<|M2 (BP K root)<|s/4)<|s %4
def DW (K:Ks) (root:Int):List Int:=(List.range 16).map<|Ns K root
variable {K X:Ks}
theorem Nh (h:i<K.length):BP K (i:Int)=K[i]:=by grind [Ar,BP]
theorem Ky {i:Int} (h0:0<=i) (h:i<(K.length:Int)):gi K i=some (BP K i):=by grind [Mv,BP]
theorem CZ (x a b:Int):Bj x a b=some (decide (a<=x/\x<=b)):=by
 rw[Tb];simp
theorem EF:Cm K=true↔∀i:Nat,i<K.length->(BP K (i:Int)).Kids.length=4/\∀n∈(BP K (i:Int)).Kids,M1 K i (BP K (i:Int)).Leaf n=true:=by simp_all [Nh,List.mem_zipIdx_iff_getElem?,Ae,Cm];grind
theorem Jh (a:Arena) (ha:a.Knots.length<=1048576):Er a=some (Cm a.Knots):=by
 unfold Er;have h:=SU (body:=λs:Int=>CR a s) a.Knots (λi k=>k.Kids.length==4&&k.Kids.all (M1 a.Knots i k.Leaf)) (.inr false) (.inl ()) (by omega)
  (λi k hk=>by
   have hi:=(Ae.1 hk).1;simp only[CR,FN hi,Ar,hk,Aa];by_cases h4:k.Kids.length=4
   ·have e1:(ln k.Kids !=4)=false:=by simp[ln,h4]
    have e2:(k.Kids.length==4)=true:=by simp[h4]
    simp only[e1,Ad,e2,Bool.true_and];have q:=SU (body:=λs:Int=>Dr a (i:Int) k s) k.Kids (λ_ n=>M1 a.Knots i k.Leaf n) (.inr<|.inr<|.inr false) (.inl ()) (by omega)
     (λj n hn=>by
      have hj:=(Ae.1 hn).1;simp only[Dr];rw[cT,Ar,hn];simp only[Aa,M1]
      cases hl:k.Leaf with
      |true=>grind [ad1]
      |false=>
       simp only[Ad,Ez,Ah];by_cases h1:n= -1
       ·grind [ad1]
       grind [BH,CZ,Ky,ad1])
     (by grind [Dr])
    rw[q];have hz:(k.Kids.zipIdx.all λz=>M1 a.Knots i k.Leaf z.1)=k.Kids.all (M1 a.Knots i k.Leaf):=by
     rw[show(λz:Int×Nat=>M1 a.Knots i k.Leaf z.1)=(M1 a.Knots i k.Leaf)∘Prod.fst from rfl,<-List.all_map];simp
    grind [ad1]
   grind [ln])
  (by simp[Fe,CR])
 grind [Cm]
theorem Jd (a:Arena) (ha:a.Knots.length<=1048576) (r:Int):EO a r=some (CG a.Knots r):=by grind [Bu,BH,CZ,Ky,EO,CG]
theorem BO (h:CG K r=true):r= -1\/(0<=r/\r<(K.length:Int)/\(BP K r).Leaf=false):=by grind [CG]
theorem FY (hK:Cm K=true) (h0:0<=r) (h1:r<(K.length:Int)):(BP K r).Kids.length=4/\∀j,j<4->(BP K r).Kids[j]?=some (M2 (BP K r) j)/\M1 K r.toNat (BP K r).Leaf (M2 (BP K r) j)=true:=by
 have:=EF.1 hK r.toNat<|by omega
 grind [M2]
theorem EZ (hK:Cm K=true) (h0:0<=r) (h1:r<(K.length:Int)) (hl:(BP K r).Leaf=false) (hj:j<4):M2 (BP K r) j= -1\/(0<=M2 (BP K r) j/\M2 (BP K r) j<r/\(BP K (M2 (BP K r) j)).Leaf=true):=by grind [FY,M1]
theorem hO (hK:Cm K=true) (h0:0<=r) (h1:r<(K.length:Int)) (hl:(BP K r).Leaf=true) (hj:j<4):0<=M2 (BP K r) j:=by grind [FY,M1]
theorem rL {s:Nat} (h:s<16):qu (s:Int) 4=((s/4:Nat):Int):=by grind [KH,qu]
theorem mS {s:Nat}:Int.tmod (s:Int) 4=((s %4:Nat):Int):=by rfl
theorem QV {s:Nat} (a:Arena) (hK:Cm a.Knots=true) (hr:CG a.Knots r=true) (hs:s<16):J9 a r (s:Int)=some (Ns a.Knots r s):=by
 unfold J9 Ns
 rcases BO hr with rfl|⟨h0,h1,hl⟩
 ·rfl
 rw[Ag (by omega:¬r<0),AA (by omega),Ad,Ky h0 h1];rw[Aa,rL hs,Ar,((FY hK h0 h1).2 (s/4)<|by omega).1];simp only[Aa]
 rcases EZ hK h0 h1 hl (show s/4<4 by omega)with e|⟨e1,e2,e3⟩
 ·rw[e];rfl
 rw[Ag (by omega),AA (by omega),Ad,Ky e1<|by omega];rw[Aa,mS,Ar,((FY hK e1<|by omega).2 (s %4)<|by omega).1];rfl
theorem S7 {s:Nat} (a:Arena) (ha:a.Knots.length<=1048576) (hK:Cm a.Knots=true) (hr:CG a.Knots r=true) (hs:s<16):L9 a r (s:Int)=some (Ns a.Knots r s):=by simp_all [Jh,Jd,CZ,QV,L9];grind
theorem LG (a:Arena) (ha:a.Knots.length<=1048576) (hK:Cm a.Knots=true) (hr:CG a.Knots r=true):Gu a r=some (DW a.Knots r):=by
 unfold Gu;obtain⟨b,h1,h2⟩:=AG (body:=λs:List Int×Int=>HV a r s.1 s.2) (λ(o:List Int) i=>(o,i)) 16 (λi o=>o=(List.range i).map (Ns a.Knots r)) (λb=>b=DW a.Knots r)
  (λo i hi ho=>by grind [S7,B5,ad1,DZ,HV])
  (λo ho=>⟨_,by rfl,ho⟩) (s:=[]) rfl
 grind
theorem Mj {by_:Nat} {l:List α} (h:l.length*by_<=140737488355328):ap by_ [] l=some l:=by grind [B5]
def oV (K:Ks):Prop:=K.length<=1048576/\∀k∈K,k.Kids.length<=1048576
theorem PQ (hK:Cm K=true) (h:K.length<=1048576):oV K:=by
 refine⟨h,λk hk=>?_⟩
 grind [Au,EF,Nh]
theorem Pk (a:Arena) (h:oV a.Knots):Jp a=some a:=by
 unfold Jp;have h1:=P7 (body:=λs:Int×List BL=>Hi a s.1 s.2) a.Knots (λk=>k)
  (λi k b hk ho=>by
   have hi:=(Ae.1 hk).1;have hm:=h.2 k<|Am hk;have:=h.1;simp only[Hi,FN hi,Ar,hk,Aa]
   rw[Mj (by omega),Aa,B5 (by simp;omega),Aa,ad1])
  (λb=>by simp[Fe,Hi])
 rw[h1];simp
theorem Jc (s:Store) (h:oV s.Arena.Knots) (hv:s.Vols.length<=1048576):Df s=some s:=by
 unfold Df;rw[Mj (by omega),Pk _ h];rfl
def Ol (K:Ks) (r:Int) (s:Nat) (n:Int):List Int:=(if r<0 then [0,0,0,0]else if M2 (BP K r) (s/4)<0 then [0,0,0,0]else(BP K<|M2 (BP K r)<|s/4).Kids).set (s %4) n
def R1 (K:Ks) (r:Int) (s:Nat):List Int:=(if r<0 then [-1,-1,-1,-1]else(BP K r).Kids).set (s/4) (K.length:Int)
def IP (K:Ks) (r:Int) (s:Nat) (n:Int):Ks:=K++ [BL.mk true<|Ol K r s n,BL.mk false<|R1 K r s]
theorem tG:mk 8 (0:Int) 4=some [0,0,0,0]:=by rfl
theorem iG {k:BL} (h:j<k.Kids.length):gi k.Kids (j:Int)=some (M2 k j):=by grind [Ar,M2]
theorem Zo {s:Nat} (a:Arena) (ha:a.Knots.length<=1048000) (hK:Cm a.Knots=true) (hr:CG a.Knots r=true) (hs:s<16) (hn:0<=n):
  RH a r (s:Int) n=some (Arena.mk (IP a.Knots r s n),(a.Knots.length:Int)+1):=by
 unfold RH;rw[Pk _ (PQ hK<|by omega),Jh a (by omega),Jd a (by omega),CZ,hK,hr];rw[Ac (by omega:0<=(s:Int)/\(s:Int)<=15),Ag (by omega:¬n<0)];rw[tG];simp only[Aa];have fin:∀(lf tp:List Int),lf.length=4->tp.length=4->IP a.Knots r s n=a.Knots++ [BL.mk true<|lf.set (s %4) n,BL.mk false<|tp.set (s/4) (a.Knots.length:Int)]->
   ((gi lf<|Int.tmod (s:Int) 4).bind λx4=>(gi tp<|qu (s:Int) 4).bind λx5=>(ap 32 a.Knots [BL.mk true<|si lf (Int.tmod (s:Int) 4) n,BL.mk false<|si tp (qu (s:Int) 4)<|ln a.Knots]).bind λq4=>some (Arena.mk q4,sb (ln q4) 1))=some (Arena.mk<|IP a.Knots r s n,(a.Knots.length:Int)+1):=by
  intro lf tp h1 h2 h3;rw[rL hs,mS,Ar,Ar,Ab (by omega),Ab<|by omega];rw[B5 (by simp;omega),Ea,Ea,Bu,<-h3]
  grind [Bu,BH]
 rcases BO hr with rfl|⟨h0,h1,hl⟩
 ·rw[Ag (by omega:¬(-1:Int)>=0)];exact fin _ _ rfl rfl rfl
 rw[cT,Ky h0 h1];have h4:=(FY hK h0 h1).1;simp only[Aa];rw[Mj<|by omega];simp only[Aa];rw[rL hs,iG (by omega:s/4<(BP a.Knots r).Kids.length)];simp only[Aa];rw[<-rL hs]
 rcases EZ hK h0 h1 hl (show s/4<4 by omega)with e|⟨e1,e2,e3⟩
 ·grind [IP,Ol,R1]
 grind [Ky,FY,Mj,IP,Ol,R1]
def M3 (K:Ks) (r:Int) (i:Nat):Bool:=decide (0<=r)&&(decide (r=(i:Int))||(BP K r).Kids.any λn=>decide<|n=(i:Int))
theorem WA (n:Nat) (f:Nat->α) (g:Nat->α->α):((List.range n).map f).mapIdx g=(List.range n).map λi=>g i (f i):=by
 apply BB
 grind
theorem NF (n:Nat) (f:Nat->α) (i:Nat) (x:α) (g:Nat->α) (h:∀j,j<n->g j=if j=i then x else f j):((List.range n).map f).set i x=(List.range n).map g:=by
 apply BB
 grind
theorem NG {n:Nat} {f:Nat->α} (h:i<n):((List.range n).map f)[i]?=some (f i):=by grind
theorem Xw {m:Nat} (h:l[m]?=some x) (p:Int->Bool):(l.take (m+1)).any p=((l.take m).any p||p x):=by grind [Dc]
theorem X5 (a:Arena) (ha:a.Knots.length<=1048576) (hK:Cm a.Knots=true) (hr:CG a.Knots r=true):Pj a r=some ((List.range a.Knots.length).map (M3 a.Knots r)):=by
 unfold Pj;rw[Bu,W8 (by omega)<|by omega];simp only[Aa]
 rcases BO hr with rfl|⟨h0,h1,hl⟩
 ·simp only[show decide ((-1:Int)<0)=true from rfl,Ah];congr 1;rw[show(M3 a.Knots<|-1)=λ_=>false from rfl,M5,EW]
 rw[cF];obtain⟨m,rfl⟩:∃m:Nat,r=(m:Int):=⟨r.toNat,by omega⟩;rw[Ar,List.getElem?_replicate,Bc<|by omega];rw[Ea];obtain⟨h4,hk⟩:=FY hK h0 h1;obtain⟨b,q1,q2⟩:=AG (body:=λs:List Bool×Int=>I1 a (m:Int) s.1 s.2) (λ(o:List Bool) i=>(o,i)) 4
  (λi o=>o=(List.range a.Knots.length).map λ(j:Nat)=>decide ((m:Int)=(j:Int))||((BP a.Knots (m:Int)).Kids.take i).any λn=>decide<|n=(j:Int))
  (λb=>b=(List.range a.Knots.length).map (M3 a.Knots (m:Int)))
  (λo i hi ho=>by
   obtain⟨e,_⟩:=hk i hi;simp only[I1];rw[cT,Ky h0 h1];simp only[Aa];rw[Ar,e];simp only[Aa]
   rcases EZ hK h0 h1 hl hi with e1|⟨e1,e2,e3⟩
   ·grind [ad1,Xw]
   obtain⟨c,hc⟩:∃c:Nat,M2 (BP a.Knots (m:Int)) i=(c:Int):=⟨(M2 (BP a.Knots (m:Int)) i).toNat,by omega⟩;rw[hc,cT];rw[ho,Ar,NG<|by omega];rw[Ea,ad1]
   simp_all [NF,Xw];grind)
  (λo ho=>⟨_,by simp only[I1];rw[cF],by
   rw[ho];apply Ci;intro j hj;rw[AY<|by omega]
   rfl⟩) (s:=(List.replicate a.Knots.length false).set m true) (by grind [EW,M5,NF])
 grind
def Dk (K:Ks) (R:List Int) (i:Nat):Bool:=R.any λr=>M3 K r i
def XT (K:Ks) (R:List Int) (i:Nat):Nat:=((List.range i).filter<|Dk K R).length
def Pt (K:Ks) (R:List Int) (n:Int):Int:=if 0<=n then(XT K R n.toNat:Int)else n
def YY (K:Ks) (R:List Int) (i:Nat):BL:=BL.mk (BP K (i:Int)).Leaf<|bif(BP K (i:Int)).Leaf then(BP K (i:Int)).Kids else(BP K (i:Int)).Kids.map<|Pt K R
def RD (K:Ks) (R:List Int):Ks:=((List.range K.length).filter<|Dk K R).map<|YY K R
theorem LT (l:List α) (f:α->α):l.mapIdx (λ_ x=>f x)=l.map f:=by
 apply BB
 grind
theorem Ny (hr:r∈R) (h0:0<=r):Dk K R r.toNat=true:=by grind [Dk,M3]
theorem Xo (hK:Cm K=true) (hR:∀r∈R,CG K r=true) (hu:Dk K R i=true) (hl:(BP K (i:Int)).Leaf=false):(i:Int)∈R:=by
 unfold Dk at hu;rw[FT]at hu;obtain⟨r,hr,h⟩:=hu;unfold M3 at h;simp only[Al,M7,Br,FT]at h;obtain⟨h0,h⟩:=h
 rcases h with h|⟨n,hn,h⟩
 ·grind
 rcases BO (hR r hr)with e|⟨_,h1,a⟩
 ·omega
 obtain⟨h4,hk⟩:=FY hK h0 h1;obtain⟨j,hj,b⟩:=Au hn;have e:=(hk j<|by omega).1
 grind [EZ]
theorem Se (hr:r∈R) (h0:0<=r) (hn:n∈(BP K r).Kids) (h1:0<=n):Dk K R n.toNat=true:=by grind [Dk,M3]
theorem qC (i:Nat):XT K R i<=i:=by
 have:=Bz (Dk K R)<|List.range i;rw[EW]at this;exact this
theorem Uc (a:Arena) (ha:a.Knots.length<=1048576) (R:List Int) (hc:R.length<=1048576) (hR:∀r∈R,CG a.Knots r=true):Ai (λs:Bool×Int=>DM a R s.1 s.2) (true,0)=some true:=by
 obtain⟨b,h1,h2⟩:=AG (body:=λs:Bool×Int=>DM a R s.1 s.2) (λ(o:Bool) i=>(o,i)) R.length (λ_ o=>o=true) (λb=>b=true)
  (λo i hi ho=>by
   have hx:=Ab hi;simp only[DM,IV,Ac hi,Ah,Aa,ho,Ar,hx];rw[Jd a ha,hR _<|A4 hi,Aa,ad1]
   grind)
  (λo ho=>⟨o,by grind [IV,DM],ho⟩) (s:=true) rfl
 grind
theorem Wd (a:Arena) (ha:a.Knots.length<=1048576) (hK:Cm a.Knots=true) (R:List Int) (hc:R.length<=1048576) (hR:∀r∈R,CG a.Knots r=true):
  Ai (λs:List Bool×Int=>DL a R s.1 s.2) (List.replicate a.Knots.length false,0)=some ((List.range a.Knots.length).map (Dk a.Knots R)):=by
 obtain⟨b,h1,h2⟩:=AG (body:=λs:List Bool×Int=>DL a R s.1 s.2) (λ(o:List Bool) i=>(o,i)) R.length (λi o=>o=(List.range a.Knots.length).map λ(j:Nat)=>(R.take i).any λr=>M3 a.Knots r j) (λb=>b=(List.range a.Knots.length).map (Dk a.Knots R))
  (λo i hi ho=>by
   have hx:=Ab hi;simp only[DL,FN hi,Aa,Ar,hx];rw[X5 a ha hK<|hR _<|A4 hi];simp only[Aa];have q:=P6 (body:=λs:List Bool×Int=>EH ((List.range a.Knots.length).map<|M3 a.Knots R[i]) s.1 s.2) (λl i=>(l,i)) (λk x=>x||M3 a.Knots R[i] k) o
    (λk l x hl c d=>by grind [IV,Ar,Ea,ad1,EH])
    (λl hl=>by grind [IV,EH])
   rw[q,Aa,ad1,ho,WA]
   grind [Dc])
  (λo ho=>⟨o,by simp[Fe,DL],by rw[ho,AY<|by omega];rfl⟩) (s:=List.replicate a.Knots.length false) (by grind [M5,EW])
 grind
def bE (K:Ks) (R:List Int) (i:Nat):List Int:=(List.range K.length).map λ(j:Nat)=>if j<i/\Dk K R j=true then(XT K R j:Int)else 0
theorem Ud (a:Arena) (ha:a.Knots.length<=1048576) (hK:Cm a.Knots=true) (R:List Int) (hR:∀r∈R,CG a.Knots r=true):
  Ai (λs:List Int×Int×List BL=>DK a ((List.range a.Knots.length).map (Dk a.Knots R)) s.1 s.2.1 s.2.2) (List.replicate a.Knots.length 0,0,[])=some (bE a.Knots R a.Knots.length,RD a.Knots R):=by
 obtain⟨b,h1,h2⟩:=AG (body:=λs:List Int×Int×List BL=>DK a ((List.range a.Knots.length).map<|Dk a.Knots R) s.1 s.2.1 s.2.2) (λ(o:List Int×List BL) i=>(o.1,i,o.2)) a.Knots.length
  (λi o=>o=(bE a.Knots R i,((List.range i).filter<|Dk a.Knots R).map<|YY a.Knots R)) (λb=>b=(bE a.Knots R a.Knots.length,RD a.Knots R))
  (λo i hi ho=>by
   subst ho;simp only[DK,FN hi];rw[Ar,NG hi];simp only[Aa]
   cases hu:Dk a.Knots R i with
   |false=>grind [ad1,DZ,bE]
   |true=>
    simp only[Ay,Ad];have h0:(0:Int)<=(i:Int):=by omega
    have d:(i:Int)<(a.Knots.length:Int):=by omega
    rw[Ky h0 d];obtain⟨h4,hk⟩:=FY hK h0 d;simp only[Aa];rw[Mj<|by omega];simp only[Aa];have inner:Ai (λs:Int×List Int=>DJ (bE a.Knots R i) ((BP a.Knots (i:Int)).Leaf,(BP a.Knots (i:Int)).Kids) s.1 s.2) (0,(BP a.Knots (i:Int)).Kids)=some (YY a.Knots R i).Kids:=by
     unfold YY
     cases hl:(BP a.Knots (i:Int)).Leaf with
     |true=>rw[Aw];rfl
     |false=>
      have q:=P6 (body:=λs:Int×List Int=>DJ (bE a.Knots R i) (false,(BP a.Knots (i:Int)).Kids) s.1 s.2) (λl k=>(k,l)) (λ_ x=>Pt a.Knots R x) (BP a.Knots (i:Int)).Kids
       (λk l x g h j=>by
        have m:k<4:=by grind
        have ex:x=M2 (BP a.Knots (i:Int)) k:=by grind
        simp only[DJ];rw[Ac (by omega:(k:Int)<4)];simp only[Ah,Aa,Ez];rw[Ar,h];simp only[Aa]
        rcases EZ hK h0 d hl m with e|⟨e1,e2,e3⟩
        ·rw[cF,ad1];have:Pt a.Knots R x=x:=by unfold Pt;omega
         rw[this,show l.set k x=l from by
          apply BB
          grind]
        rw[cT];obtain⟨c,hc⟩:∃c:Nat,x=(c:Int):=⟨x.toNat,by omega⟩;have n:x∈(BP a.Knots (i:Int)).Kids:=Am j;have f:=Se (Xo hK hR hu hl) h0 n (by omega);rw[hc]at f;rw[hc,Ar];unfold bE;rw[NG (by omega),Aa,Bc ⟨by omega,f⟩,Ea,ad1]
        rfl)
       (λl g=>by grind [DJ])
      grind [LT]
    rw[inner];simp only[Aa];have p:gi (bE a.Knots R i) (i:Int)=some 0:=by grind [Ar,bE]
    rw[p];simp only[Aa];have u:=qC (K:=a.Knots) (R:=R) i;have t:(((List.range i).filter<|Dk a.Knots R).map<|YY a.Knots R).length=XT a.Knots R i:=by rw[Cf];rfl
    rw[B5 (by grind),Aa,ad1,Bu,t,Ea];refine .inl ⟨(_,_),rfl,?_⟩;congr 1
    ·grind [NF,bE]
    rw[DZ,Cr,List.filter_cons_of_pos hu,List.filter_nil,RZ]
    rfl)
  (λo ho=>⟨o,by simp[Fe,DK],ho⟩) (s:=(List.replicate a.Knots.length 0,[])) (by grind [M5,EW,bE])
 grind
theorem Zl (a:Arena) (ha:a.Knots.length<=1048576) (R:List Int) (hc:R.length<=1048576) (hR:∀r∈R,CG a.Knots r=true):
  Ai (λs:List Int×Int=>DI (bE a.Knots R a.Knots.length,RD a.Knots R) s.1 s.2) (R,0)=some (R.map (Pt a.Knots R)):=by
 have q:=P6 (body:=λs:List Int×Int=>DI (bE a.Knots R a.Knots.length,RD a.Knots R) s.1 s.2) (λl k=>(l,k)) (λ_ x=>Pt a.Knots R x) R
  (λk l x h b d=>by
   have i:=(Ae.1 b).1;simp only[DI,FN i,Ar,b,Aa]
   rcases BO (hR x<|Am d)with e|⟨e1,e2,e3⟩
   ·rw[cF,ad1];have:Pt a.Knots R x=x:=by unfold Pt;omega
    rw[this,show l.set k x=l from by
     apply BB
     grind]
   rw[cT];obtain⟨c,f⟩:∃c:Nat,x=(c:Int):=⟨x.toNat,by omega⟩;have g:=Ny (K:=a.Knots) (Am d) e1;rw[f]at g;rw[f,Ar];unfold bE;rw[NG (by omega),Aa,Bc ⟨by omega,g⟩,Ea,ad1]
   rfl)
  (λl h=>by grind [Bu,DI])
 grind [LT]
theorem S1 (a:Arena) (ha:a.Knots.length<=1048576) (hK:Cm a.Knots=true) (R:List Int) (hc:R.length<=1048576) (hR:∀r∈R,CG a.Knots r=true):
  Hn a R=some (Arena.mk (RD a.Knots R),R.map (Pt a.Knots R)):=by
 unfold Hn;rw[Mj (by omega),Jh a ha,hK];simp only[Aa];rw[Uc a ha R hc hR];rw[Bu,W8 (by omega)<|by omega];simp only[Aa];rw[Wd a ha hK R hc hR];rw[W8 (by omega)<|by omega];simp_all [Ud,Zl]
theorem Tt (p:Nat->Bool) (hp:p i=true):∀{n:Nat},i<n->((List.range n).filter p)[((List.range i).filter p).length]?=some i
 |0,h=>by omega
 |n+1,h=>by
  rw[DZ,Cr];by_cases e:i=n
  ·grind
  have h2:=Tt p hp<|show i<n by omega
  grind
theorem iL {n:Nat} (p:Nat->Bool) (hp:p i=true) (h:i<n):((List.range i).filter p).length<((List.range n).filter p).length:=(Ae.1<|Tt p hp h).1
theorem Yt (p:Nat->Bool):∀{n j:Nat},j<((List.range n).filter p).length->∃i,i<n/\p i=true/\((List.range i).filter p).length=j
 |0,j,h=>by simp at h
 |n+1,j,h=>by
  rw[DZ,Cr,A3]at h;by_cases e:j<((List.range n).filter p).length
  ·obtain⟨i,h1,h2,h3⟩:=Yt p e
   grind
  grind
theorem aT:(RD K R).length=XT K R K.length:=by unfold RD XT;rw[Cf]
theorem Nz (hu:Dk K R i=true) (hi:i<K.length):BP (RD K R) (XT K R i:Nat)=YY K R i/\XT K R i<(RD K R).length:=by grind [Ar,Tt,XT,RD,BP]
theorem fF (hj:j<(RD K R).length):∃i,i<K.length/\Dk K R i=true/\XT K R i=j:=by
 rw[aT]at hj;exact Yt (Dk K R) hj
theorem qB (hu:Dk K R i=true) (h:i<j):XT K R i<XT K R j:=iL _ hu h
theorem Sk (i:Nat):(YY K R i).Leaf=(BP K (i:Int)).Leaf:=rfl
theorem aR (hK:Cm K=true) (hi:i<K.length):(YY K R i).Kids.length=4:=by grind [EF,YY]
theorem aS (hl:(BP K (i:Int)).Leaf=false) (hj:j<(BP K (i:Int)).Kids.length):M2 (YY K R i) j=Pt K R (M2 (BP K (i:Int)) j):=by
 unfold M2 YY
 grind
theorem Og (hl:(BP K (i:Int)).Leaf=true):(YY K R i).Kids=(BP K (i:Int)).Kids:=by grind [YY]
theorem RK (h:n<0):Pt K R n=n:=by unfold Pt;omega
theorem NE (n:Nat):Pt K R (n:Int)=(XT K R n:Int):=by rfl
theorem nQ (hK:Cm K=true) (hR:∀r∈R,CG K r=true):Cm (RD K R)=true:=by
 rw[EF];intro j hj;obtain⟨i,hi,hu,rfl⟩:=fF hj;rw[(Nz hu hi).1];refine⟨aR hK hi,λn hn=>?_⟩;have h0:(0:Int)<=(i:Int):=by omega
 have h1:(i:Int)<(K.length:Int):=by omega
 obtain⟨h4,hk⟩:=FY hK h0 h1;rw[Sk]
 cases hl:(BP K (i:Int)).Leaf with
 |true=>grind [Og,EF,M1]
 |false=>
  obtain⟨m,hm,b⟩:=Au hn;rw[aR hK hi]at hm;have e:n=Pt K R (M2 (BP K (i:Int)) m):=by
   rw[<-aS hl (by omega),<-b]
   grind [M2]
  rcases EZ hK h0 h1 hl hm with k1|⟨k1,k2,k3⟩
  ·rw[k1,RK<|by omega]at e;subst e;rfl
  obtain⟨c,hc⟩:∃c:Nat,M2 (BP K (i:Int)) m=(c:Int):=⟨_,(AL k1).symm⟩;rw[hc]at e k2 k3;rw[NE]at e;have a:=Se (Xo hK hR hu hl) h0 (Am (hk m hm).1) (by omega);rw[hc]at a;have d:c<K.length:=by omega
  have f:XT K R c<XT K R i:=qB (by simpa using a)<|by omega
  grind [Nz,Sk,M1]
theorem fY (hR:∀r∈R,CG K r=true) (hr:r∈R):CG (RD K R) (Pt K R r)=true:=by
 rcases BO (hR r hr)with e|⟨h0,h1,hl⟩
 ·rw[e,RK<|by omega];rfl
 obtain⟨c,rfl⟩:∃c:Nat,r=(c:Int):=⟨_,(AL h0).symm⟩
 grind [Ny,DP,Nz,NE,Sk,CG]
theorem bB (hK:Cm K=true) (hR:∀r∈R,CG K r=true) (hr:r∈R):DW (RD K R) (Pt K R r)=DW K r:=by
 unfold DW;apply Ci;intro s hs;rw[Uz]at hs;unfold Ns
 rcases BO (hR r hr)with e|⟨h0,h1,hl⟩
 ·grind [RK]
 obtain⟨c,rfl⟩:∃c:Nat,r=(c:Int):=⟨_,(AL h0).symm⟩;have a:=Ny (K:=K) hr h0;rw[DP]at a;obtain⟨g1,g2⟩:=Nz a (by omega);obtain⟨h4,hk⟩:=FY hK h0 h1;rw[NE,g1,aS hl<|by omega];simp only[AA (show¬((XT K R c:Nat):Int)<0 by omega),AA<|show¬((c:Nat):Int)<0 by omega]
 rcases EZ hK h0 h1 hl (show s/4<4 by omega)with k1|⟨k1,k2,k3⟩
 ·grind [RK]
 obtain⟨d,hd⟩:∃d:Nat,M2 (BP K (c:Int)) (s/4)=(d:Int):=⟨_,(AL k1).symm⟩;have b:=Se hr h0 (Am (hk (s/4)<|by omega).1) k1
 grind [NE,Nz,Og,M2]
theorem kC (hK:Cm K=true) (hR:∀r∈R,CG K r=true) (hj:j<(RD K R).length):Dk (RD K R) (R.map (Pt K R)) j=true:=by
 obtain⟨i,hi,hu,rfl⟩:=fF hj;have hu':=hu;unfold Dk at hu';rw[FT]at hu';obtain⟨r,hr,h⟩:=hu';unfold M3 at h;simp only[Al,M7,Br,FT]at h;obtain⟨h0,h⟩:=h;unfold Dk;rw[FT];refine⟨Pt K R r,Az.2 ⟨r,hr,rfl⟩,?_⟩;obtain⟨c,rfl⟩:∃c:Nat,r=(c:Int):=⟨_,(AL h0).symm⟩;rw[NE];unfold M3;simp only[Al,M7,Br,FT];refine⟨by omega,?_⟩
 rcases h with h|⟨n,hn,h⟩
 ·grind
 right
 rcases BO (hR _ hr)with e|⟨_,h1,hl⟩
 ·omega
 grind [Ny,DP,Nz,NE,YY]
theorem Ni {i:Int} (h0:0<=i) (h:i<(K.length:Int)):BP (K++X) i=BP K i:=by
 obtain⟨c,rfl⟩:∃c:Nat,i=(c:Int):=⟨_,(AL h0).symm⟩
 grind [Ar,BP]
theorem fW (h:CG K r=true):CG (K++X) r=true:=by grind [Ni,CG]
theorem aX (hK:Cm K=true) (h:CG K r=true):DW (K++X) r=DW K r:=by grind [Ci,BO,Ni,EZ,DW,Ns]
theorem Vy {s:Nat} (hK:Cm K=true) (hr:CG K r=true) (hs:s<16) (n:Int):(Ol K r s n).length=4:=by grind [BO,EZ,FY,Ol]
theorem Xr (hK:Cm K=true) (hr:CG K r=true) (s:Nat):(R1 K r s).length=4:=by grind [BO,FY,R1]
theorem Qu {s:Nat}:BP (IP K r s n) (K.length:Int)=BL.mk true (Ol K r s n):=by grind [Ar,BP,IP]
theorem Qt {s:Nat}:BP (IP K r s n) ((K.length:Int)+1)=BL.mk false (R1 K r s):=by
 unfold BP IP;rw[show(K.length:Int)+1=((K.length+1:Nat):Int)from rfl,Ar,HB (by omega),show K.length+1-K.length=1 by omega];rfl
theorem nY {s:Nat} (hK:Cm K=true) (hr:CG K r=true) (hs:s<16) (hn:0<=n):Cm (IP K r s n)=true:=by
 rw[EF];intro j hj;have a:(IP K r s n).length=K.length+2:=by unfold IP;simp
 rw[a]at hj;by_cases h:j<K.length
 ·grind [Ni,EF,IP,M1]
 by_cases e:j=K.length
 ·subst e;rw[Qu];refine⟨Vy hK hr hs n,λm hm=>?_⟩;simp only[M1,Ah,Br]
  rcases BY hm with hm|hm
  ·rcases BO hr with e|⟨h0,h1,hl⟩
   ·grind
   rw[AA<|by omega]at hm
   rcases EZ hK h0 h1 hl (show s/4<4 by omega)with k1|⟨k1,k2,k3⟩
   ·grind
   rw[AA<|by omega]at hm;have hq:=EF.1 hK (M2 (BP K r)<|s/4).toNat<|by omega
   grind [M1]
  omega
 have:j=K.length+1:=by omega
 subst this;rw[show((K.length+1:Nat):Int)=(K.length:Int)+1 from rfl,Qt];refine⟨Xr hK hr s,λm hm=>?_⟩;simp only[M1,Ad,M7,HA,Al,Br]
 rcases BY hm with hm|hm
 ·rcases BO hr with e|⟨h0,h1,hl⟩
  ·grind
  rw[AA<|by omega]at hm;obtain⟨q,hq,rfl⟩:=Au hm;obtain⟨h4,hk⟩:=FY hK h0 h1;have e5:=(hk q<|by omega).1
  grind [EZ,Ni,IP]
 grind [Qu]
theorem dB {s:Nat}:CG (IP K r s n) ((K.length:Int)+1)=true:=by grind [Qt,CG,IP]
theorem bD {s:Nat} (hK:Cm K=true) (hr:CG K r=true) (hs:s<16):DW (IP K r s n) ((K.length:Int)+1)=(DW K r).set s n:=by
 unfold DW;symm;apply NF;intro t ht;unfold Ns;rw[Qt];simp only[AA<|show¬((K.length:Int)+1)<0 by omega];have a:=Xr hK hr s;have b:=Vy hK hr hs n;by_cases hq:t/4=s/4
 ·have e1:M2 (BL.mk false<|R1 K r s) (t/4)=(K.length:Int):=by grind [M2,R1]
  rw[e1,AA (by omega),Qu];have e2:M2 (BL.mk true<|Ol K r s n) (t %4)=if t %4=s %4 then n else(if r<0 then 0 else if M2 (BP K r) (s/4)<0 then 0 else M2 (BP K<|M2 (BP K r)<|s/4)<|t %4):=by grind [M2,Ol]
  grind
 rw[AA<|show¬t=s by omega];have e1:M2 (BL.mk false<|R1 K r s) (t/4)=if r<0 then-1 else M2 (BP K r) (t/4):=by grind [M2,R1]
 rw[e1]
 grind [BO,EZ,Ni,IP]
def IR (n:Nat) (p:Nat->Bool):Nat:=((List.range n).filter p).length
theorem NV (n:Nat) (p:Nat->Bool):IR (n+1) p=IR n p+(if p n=true then 1 else 0):=by grind [DZ,IR]
theorem RV (p q:Nat->Bool):∀n,IR n (λj=>p j||q j)<=IR n p+IR n q
 |0=>by simp[IR]
 |n+1=>by
  have:=RV p q n
  grind [NV]
theorem T4 (x:Int):∀n,IR n (λj=>decide (x=(j:Int)))<=1/\(x>=(n:Int)->IR n (λj=>decide (x=(j:Int)))=0)
 |0=>by simp[IR]
 |n+1=>by
  obtain⟨h1,h2⟩:=T4 x n
  grind [NV]
theorem iR (l:List Int) (n:Nat):IR n (λj=>l.any λx=>decide (x=(j:Int)))<=l.length:=by
 induction l with
 |nil=>simp[IR]
 |cons x l ih=>
  simp only[List.any_cons,AM];have:=RV (λj=>decide<|x=(j:Int)) (λj=>l.any λx=>decide<|x=(j:Int)) n;have:=(T4 x n).1;omega
theorem mD {n:Nat} {q:Nat->Bool} (h:∀j,j<n->p j=true->q j=true):IR n p<=IR n q:=by
 induction n with
 |zero=>simp[IR]
 |succ n ih=>grind [NV]
theorem Y2 {n:Nat} (h:∀j,j<n->p j=true):IR n p=n:=by
 induction n with
 |zero=>rfl
 |succ n ih=>grind [NV]
theorem lW (hK:Cm K=true) (hr:CG K r=true) (n:Nat):IR n (M3 K r)<=5:=by
 have h1:=RV (λj=>decide<|r=(j:Int)) (λj=>(BP K r).Kids.any λn=>decide<|n=(j:Int)) n;have h2:=(T4 r n).1;have h3:=iR (BP K r).Kids n
 have h4:IR n (M3 K r)<=IR n (λj=>decide (r=(j:Int))||(BP K r).Kids.any λn=>decide<|n=(j:Int)):=mD λj _ h=>by grind [M3]
 rcases BO hr with e|⟨h0,hl,_⟩
 ·have:IR n (M3 K r)=IR n (λ_=>false):=by rw[e];rfl
  simp_all;grind
 grind [FY]
theorem Sf (hK:Cm K=true) (n:Nat):∀(R:List Int),(∀r∈R,CG K r=true)->IR n (Dk K R)<=5*R.length
 |[],_=>by simp[IR,Dk]
 |r::R,h=>by
  have h1:=Sf hK n R (λx hx=>h x<|by simp[hx]);have h2:=lW hK (h r<|by simp) n;have h3:=RV (M3 K r) (Dk K R) n;have h4:IR n (Dk K (r::R))=IR n (λj=>M3 K r j||Dk K R j):=rfl
  grind
theorem cM (hK:Cm K=true) (hR:∀r∈R,CG K r=true):(RD K R).length<=5*R.length:=by
 rw[aT];exact Sf hK _ R hR
def Bv (s:Store):List Int:=s.Vols.map Vol.Root
structure QD (s:Store):Prop where
 len:s.Vols.length<=3
 ar:Cm s.Arena.Knots=true
 nx:1<=s.Next/\s.Next<=1000000000
 ids:∀v∈s.Vols,1<=v.Id/\v.Id<=9
 asc:(s.Vols.map Vol.Id).Pairwise (·<·)
 root:∀r∈Bv s,CG s.Arena.Knots r=true
 lt:∀r∈Bv s,∀x∈DW s.Arena.Knots r,x<s.Next
 few:s.Arena.Knots.length<=1000
structure Cx (s:Store):Prop extends QD s where
 used:∀i,i<s.Arena.Knots.length->Dk s.Arena.Knots (Bv s) i=true
theorem Cx.small (h:Cx s):s.Arena.Knots.length<=15:=by
 have h1:=Sf h.ar s.Arena.Knots.length (Bv s) h.root;rw[Y2 h.used]at h1;have:(Bv s).length=s.Vols.length:=by unfold Bv;rw[Cf]
 have:=h.len;omega
def AW (s:Store):List (Int×List Int):=s.Vols.map λv=>(v.Id,DW s.Arena.Knots v.Root)
def IN (s:Store):Store:=Store.mk (s.Vols.map λv=>Vol.mk v.Id<|Pt s.Arena.Knots (Bv s) v.Root) (Arena.mk<|RD s.Arena.Knots<|Bv s) s.Next
theorem LK (s:Store):Bv (IN s)=(Bv s).map (Pt s.Arena.Knots (Bv s)):=by simp[Bv,IN]
theorem aQ (h:QD s):Cx (IN s):=by
 have b:(Bv s).length=s.Vols.length:=by unfold Bv;rw[Cf]
 refine⟨⟨by unfold IN;simpa using h.len,nQ h.ar h.root,h.nx,?_,?_,?_,?_,?_⟩,?_⟩
 ·intro v hv;unfold IN at hv;simp only[Az]at hv;obtain⟨w,hw,rfl⟩:=hv;exact h.ids w hw
 ·have:((IN s).Vols.map Vol.Id)=s.Vols.map Vol.Id:=by unfold IN;simp
  rw[this];exact h.asc
 ·intro r hr;rw[LK]at hr;obtain⟨q,hq,rfl⟩:=Az.1 hr;exact fY h.root hq
 ·intro r hr;rw[LK]at hr;obtain⟨q,hq,rfl⟩:=Az.1 hr;have:=bB h.ar h.root hq;intro x hx;have a:x∈DW s.Arena.Knots q:=by rw[<-this];exact hx
  exact h.lt q hq x a
 ·have:=cM h.ar h.root;have:=h.len;show(RD s.Arena.Knots<|Bv s).length<=1000;omega
 intro i hi;rw[LK];exact kC h.ar h.root hi
theorem UI (h:QD s):AW (IN s)=AW s:=by
 unfold AW;show(s.Vols.map λv=>Vol.mk v.Id<|Pt s.Arena.Knots (Bv s) v.Root).map _=_;rw[Ef];apply Ci;intro v hv;have:=bB h.ar h.root<|show v.Root∈Bv s from Az.2 ⟨v,hv,rfl⟩;show(v.Id,DW (RD s.Arena.Knots<|Bv s)<|Pt s.Arena.Knots (Bv s) v.Root)=_;rw[this]
theorem Oi (s:Store) (hv:s.Vols.length<=1048576):J8 s=some (Bv s):=by
 unfold J8;obtain⟨b,h1,h2⟩:=AG (body:=λq:List Int×Int=>Ge s q.1 q.2) (λ(o:List Int) i=>(o,i)) s.Vols.length (λi o=>o=(s.Vols.take i).map Vol.Root) (λb=>b=Bv s)
  (λo i hi ho=>by
   have hx:=Ab hi;simp only[Ge,FN hi,Ar,hx,Aa]
   grind [B5,ad1,Dc])
  (λo ho=>⟨o,by simp[Fe,Ge],by rw[ho,AY<|A5 _];rfl⟩) (s:=[]) rfl
 grind
theorem Oh (h:QD s):E7 s=some (IN s):=by
 have hl:=h.len;have hf:=h.few;have c:(Bv s).length=s.Vols.length:=by unfold Bv;rw[Cf]
 unfold E7;rw[Oi s<|by omega];simp only[Aa];rw[S1 _ (by omega) h.ar _ (by omega) h.root];rw[Mj<|by omega];simp only[Aa];have q:=P6 (body:=λq:Int×List Vol=>Gd ((Bv s).map<|Pt s.Arena.Knots<|Bv s,RD s.Arena.Knots<|Bv s) q.1 q.2) (λl i=>(i,l)) (λ_ v=>Vol.mk v.Id<|Pt s.Arena.Knots (Bv s) v.Root) s.Vols
  (λi l x a b d=>by
   have hi:=(Ae.1 b).1;simp only[Gd,FN hi]
   grind [Ar,Ea,ad1,Bv])
  (λl a=>by grind [Bu,Gd])
 rw[LT]at q;rw[q];rfl
theorem fE (h:Cx s):IN s=s:=by
 have d:∀i,i<=s.Arena.Knots.length->XT s.Arena.Knots (Bv s) i=i:=λi hi=>Y2 λj hj=>h.used j<|by omega
 have b:∀n:Int,n<(s.Arena.Knots.length:Int)->Pt s.Arena.Knots (Bv s) n=n:=λn hn=>by
  unfold Pt
  grind
 have a:∀r∈Bv s,Pt s.Arena.Knots (Bv s) r=r:=λr hr=>by
  rcases BO (h.root r hr)with e|⟨h0,h1,_⟩
  ·grind
  exact b r h1
 have c:RD s.Arena.Knots (Bv s)=s.Arena.Knots:=by
  unfold RD;rw[Ee.2 λi hi=>h.used i<|by simpa using hi];apply BB;intro i;rw[Ka];by_cases hi:i<s.Arena.Knots.length
  ·rw[List.getElem?_range hi,Ab hi];simp only[GC];congr 1;have h0:(0:Int)<=(i:Int):=by omega
   have h1:(i:Int)<(s.Arena.Knots.length:Int):=by omega
   unfold YY
   cases hl:(BP s.Arena.Knots (i:Int)).Leaf with
   |true=>
    simp only[Ah];rw[<-hl,Nh hi]
   |false=>
    simp only[Ad];have:(BP s.Arena.Knots (i:Int)).Kids.map (Pt s.Arena.Knots<|Bv s)=(BP s.Arena.Knots (i:Int)).Kids:=by
     conv=>rhs;rw[<-Mn (BP s.Arena.Knots (i:Int)).Kids]
     apply Ci;intro n hn;obtain⟨q,hq,rfl⟩:=Au hn;obtain⟨h4,hk⟩:=FY h.ar h0 h1;have e5:=(hk q<|by omega).1;rw[Ab hq]at e5
     injection e5 with e5
     rw[e5]
     rcases EZ h.ar h0 h1 hl (show q<4 by omega)with k1|⟨k1,k2,k3⟩
     ·grind
     grind
    rw[this,<-hl,Nh hi]
  grind
 unfold IN;rw[c];have:(s.Vols.map λv=>Vol.mk v.Id<|Pt s.Arena.Knots (Bv s) v.Root)=s.Vols:=by
  conv=>rhs;rw[<-Mn s.Vols]
  apply Ci;intro v hv;rw[a _<|Az.2 ⟨v,hv,rfl⟩];rfl
 rw[this]
theorem T7 {s:Nat} (hs:s<16):Ns K r s∈DW K r:=Az.2 ⟨s,by simpa using hs,rfl⟩
theorem Pz (h:l.Pairwise (·<·)) (a:i<j) (hx:l[i]?=some x) (hy:l[j]?=some y):x<y:=by grind [Dp]
theorem QZ (h:Cx s):KL s=some true:=by
 have hl:=h.len;have hf:=h.few;have d:(Bv s).length=s.Vols.length:=by unfold Bv;rw[Cf]
 unfold KL;rw[Bu,cF,Jh _ (by omega),h.ar,CZ,Ac h.nx];obtain⟨b,h1,h2⟩:=AG (body:=λq:Int=>Hp s q) (λ(_:Unit) i=>i) s.Vols.length (λ_ _=>True) (λb=>b= .inl ())
  (λ_ i hi _=>by
   have hx:=Ab hi;have hm:s.Vols[i]∈s.Vols:=A4 hi;have hr:s.Vols[i].Root∈Bv s:=Az.2 ⟨_,hm,rfl⟩;simp only[Hp,FN hi,Ar,hx,Aa];rw[CZ,Ac<|h.ids _ hm,Jd _ (by omega),h.root _ hr];simp only[Aa,Ay,Ad];have a:(cond (decide<|(i:Int)>0) ((gi s.Vols<|sb (i:Int) 1).bind λx2=>cond (decide<|x2.Id>=s.Vols[i].Id) (some true)<|some false) (some false):Option Bool)=some false:=by
    by_cases h0:i=0
    ·rw[cF]
    rw[cT,BH,show(i:Int)-1=((i-1:Nat):Int) by omega,Ar,Ab<|by omega];simp only[Aa];have:=Pz h.asc (show i-1<i by omega) (x:=s.Vols[i-1].Id) (y:=s.Vols[i].Id) (by grind) (by grind);rw[cF]
   rw[a];obtain⟨c,q1,q2⟩:=AG (body:=λq:Int=>Je s s.Vols[i] q) (λ(_:Unit) i=>i) 16 (λ_ _=>True) (λb=>b= .inl ())
    (λ_ k hk _=>by
     simp only[Je];rw[cT,QV _ h.ar (h.root _ hr) hk];simp only[Aa];have:=h.lt _ hr _<|T7 hk;rw[cF,ad1]
     simp)
    (λ_ _=>⟨_,by rfl,rfl⟩) (s:=()) trivial
   rw[q1,q2];rw[ad1]
   simp)
  (λ_ _=>⟨_,by simp[Fe,Hp],rfl⟩) (s:=()) trivial
 rw[h1,h2];simp only[Aa,Ic];rw[Oi s (by omega),Aa,S1 _ (by omega) h.ar _ (by omega) h.root];have:RD s.Arena.Knots (Bv s)=s.Arena.Knots:=by
  have:=fE h
  grind [IN]
 rw[this];simp
abbrev Vs:=List<|Int×List Int
def Mc (l:Vs) (id:Int):Option (List Int):=(l.find? λp=>p.1==id).map Prod.snd
def dT (l:Vs) (id:Int) (a:List Int):Vs:=(l.filter λp=>decide<|p.1<id)++ [(id,a)]++l.filter λp=>decide<|p.1>id
def sD (l:Vs) (id:Int):Vs:=l.filter λp=>p.1 !=id
def cU (l:Vs) (id:Int) (s:Nat) (n:Int):Vs:=l.map λp=>if p.1=id then(p.1,p.2.set s n)else p
def F5 (r:CU):Bool:=decide (0<=r.Arg/\r.Arg<=1000000000)&&(bif r.Kind==1 then r.Vol==0&&r.Chunk==0 else decide (2<=r.Kind/\r.Kind<=5)&&decide (1<=r.Vol/\r.Vol<=9)&&(r.Kind==4||r.Chunk==0)&&
 (bif r.Kind==2 then decide (r.Arg<=9)else bif r.Kind==3 then r.Arg==0 else bif r.Kind==4 then decide (r.Arg<16)&&decide (1<=r.Chunk/\r.Chunk<=1000000000)else decide (r.Arg<16)))
def QJ:List Int:=List.replicate 16 0
def Db (l:Vs) (nx:Int) (r:CU):Option (Vs×Int):=if F5 r=false then none else if r.Kind=1 then some ([],if r.Arg=0 then 1 else r.Arg) else if r.Kind=2 then
  if(0<r.Arg/\Mc l r.Arg=none)\/Mc l r.Vol≠none\/l.length=3 then none else some (dT l r.Vol (if 0<r.Arg then(Mc l r.Arg).getD QJ else QJ),nx) else if Mc l r.Vol=none\/r.Chunk=1000000000 then none else if r.Kind=3 then some (sD l r.Vol,nx) else some (cU l r.Vol r.Arg.toNat r.Chunk,max nx<|r.Chunk+1)
theorem N7 (r:CU):N8 r=some (F5 r):=by
 unfold N8 F5;simp only[CZ,Aa]
 grind
theorem G0 (s:Store) (hv:s.Vols.length<=1048576) (id:Int):(DC s id=some (-1)/\∀v∈s.Vols,v.Id≠id)\/∃k:Nat,∃v,DC s id=some (k:Int)/\s.Vols[k]?=some v/\v.Id=id/\∀j w,j<k->s.Vols[j]?=some w->w.Id≠id:=by
 unfold DC;obtain⟨b,h1,h2⟩:=AG (body:=λq:Int=>E8 s id q) (λ(_:Unit) i=>i) s.Vols.length (λi _=>∀j w,j<i->s.Vols[j]?=some w->w.Id≠id)
  (λb=>(b= .inl ()/\∀v∈s.Vols,v.Id≠id)\/∃k:Nat,∃v,b= .inr (k:Int)/\s.Vols[k]?=some v/\v.Id=id/\∀j w,j<k->s.Vols[j]?=some w->w.Id≠id)
  (λ_ i hi hs=>by
   have hx:=Ab hi;simp only[E8,FN hi,Ar,hx,Aa]
   cases e:(s.Vols[i].Id==id)with
   |true=>grind
   |false=>
    rw[ad1];refine .inl ⟨(),rfl,λj w hj hw=>?_⟩
    grind)
  (λ_ hs=>⟨_,by simp[Fe,E8],.inl ⟨rfl,λv hv=>by
   obtain⟨j,hj,rfl⟩:=Au hv
   simp_all⟩⟩) (s:=()) (λj w hj=>by omega)
 grind
theorem Lb {id:Int}:(∀v∈s.Vols,v.Id≠id)↔Mc (AW s) id=none:=by
 unfold Mc AW;simp
theorem mF {w:Vol} (h:(s.Vols.map Vol.Id).Pairwise (·<·)) (hv:v∈s.Vols) (hw:w∈s.Vols) (e:v.Id=w.Id):v=w:=by
 obtain⟨i,hi,rfl⟩:=Au hv;obtain⟨j,hj,rfl⟩:=Au hw;have gi:(s.Vols.map Vol.Id)[i]?=some s.Vols[i].Id:=by grind
 have gj:(s.Vols.map Vol.Id)[j]?=some s.Vols[j].Id:=by grind
 rcases OT i j with h1|h1|h1
 ·have:=Pz h h1 gi gj;omega
 ·subst h1;rfl
 have:=Pz h h1 gj gi;omega
theorem Js (h:(s.Vols.map Vol.Id).Pairwise (·<·)) (hv:v∈s.Vols):Mc (AW s) v.Id=some (DW s.Arena.Knots v.Root):=by
 unfold Mc;have hm:(v.Id,DW s.Arena.Knots v.Root)∈AW s:=Az.2 ⟨v,hv,rfl⟩
 cases hf:(AW s).find? λp=>p.1==v.Id with
 |none=>grind
 |some p=>
  have h1:=List.find?_some hf;have h2:=EM hf;obtain⟨w,hw,rfl⟩:=Az.1 h2
  grind [mF]
theorem Nv (s:Store):(AW s).length=s.Vols.length:=by unfold AW;rw[Cf]
theorem XQ (K:Ks):DW K (-1)=QJ:=by rfl
theorem ZS (s:Store) (p:Int->Bool) (t:Store) (hk:t.Arena=s.Arena) (hv:t.Vols=s.Vols.filter λv=>p v.Id):AW t=(AW s).filter λq=>p q.1:=by
 unfold AW;rw[hk,hv,List.filter_map];rfl
theorem Vz {body:List Vol×Int->Option ((List Vol×Int)⊕List Vol)} (l:List Vol) (p:Vol->Bool) (o:List Vol) (hM:l.length+o.length<=1048576) (h1:∀(i:Nat) v (a:List Vol),l[i]?=some v->a.length<=1048576->body (a,(i:Int))=some (.inl (bif p v then a++ [v]else a,((i+1:Nat):Int)))) (h2:∀a,body (a,(l.length:Int))=some (.inr a)):
  Ai body (o,0)=some (o++l.filter p):=by
 obtain⟨b,h3,h4⟩:=AG (body:=body) (λ(q:List Vol) i=>(q,i)) l.length (λi q=>q=o++(l.take i).filter p) (λb=>b=o++l.filter p)
  (λq i hi hq=>by grind [Dc])
  (λq hq=>⟨q,h2 q,by grind⟩) (s:=o) (by simp)
 rw[h3,h4]
theorem iD {R':List Int} (h:∀r∈R,r∈R') (hu:Dk K R i=true):Dk K R' i=true:=by grind [Dk]
theorem Zd {l:List Vol} (h:(l.map Vol.Id).Pairwise (·<·)) (v:Vol):(((l.filter λw=>decide (w.Id<v.Id))++ [v]++l.filter λw=>decide (w.Id>v.Id)).map Vol.Id).Pairwise (·<·):=by simp_all [AH];grind
theorem cQ (l:List Vol) (id:Int):(l.filter λw=>decide (w.Id<id)).length+(l.filter λw=>decide (w.Id>id)).length<=l.length:=by
 induction l with
 |nil=>simp
 |cons v l ih=>grind
def LX (s:Store) (r:CU) (o:Option (Store×Bool)):Prop:=match Db (AW s) s.Next r with
 |none=>o=some (s,false)
 |some (l,nx)=>∃t,o=some (t,true)/\Cx t/\AW t=l/\t.Next=nx
theorem dX {r:CU} (h:Cx s) (hr:F5 r=true) (hk:r.Kind=2):LX s r (J7 s r):=by
 have hl:=h.len;have d:=PQ h.ar (by have:=h.few;omega);have b:=Jc s d (by omega);have hb:F5 r=true:=hr;unfold F5 at hr;rw[hk]at hr;simp at hr;unfold LX Db;rw[hb,hk];simp only[Bool.true_eq_false,if_false,Do,show¬((2:Int)=1) by omega];unfold J7;have root:(Mc (AW s) r.Arg=none/\0<r.Arg/\(cond (decide<|r.Arg>0) ((DC s r.Arg).bind λv1=>cond (decide<|v1<0) ((Df s).bind λv2=>some<|.inr (v2,false))<|(gi s.Vols v1).bind λx1=>some<|.inl x1.Root) (some<|.inl<|-1):Option (Int⊕(Store×Bool)))=some (.inr (s,false)))\/
   (¬(0<r.Arg/\Mc (AW s) r.Arg=none)/\∃q,CG s.Arena.Knots q=true/\(q= -1\/q∈Bv s)/\DW s.Arena.Knots q=(if 0<r.Arg then(Mc (AW s) r.Arg).getD QJ else QJ)/\(cond (decide<|r.Arg>0) ((DC s r.Arg).bind λv1=>cond (decide<|v1<0) ((Df s).bind λv2=>some<|.inr (v2,false))<|(gi s.Vols v1).bind λx1=>some<|.inl x1.Root) (some<|.inl<|-1):Option (Int⊕(Store×Bool)))=some (.inl q)):=by
  by_cases h0:0<r.Arg
  ·rw[Ac (by omega:r.Arg>0)]
   rcases G0 s (by omega) r.Arg with⟨h1,h2⟩|⟨k,v,h1,h2,h3,_⟩
   ·grind [Lb]
   right;rw[h1];have hm:=Am h2;have hg:=Js h.asc hm;refine⟨λhh=>(by grind),v.Root,h.root _<|Az.2 ⟨v,hm,rfl⟩,.inr<|Az.2 ⟨v,hm,rfl⟩,?_,?_⟩
   ·grind
   grind [Ar]
  right;rw[Ag (by omega:¬r.Arg>0),AA h0];exact⟨λhh=>h0 hh.1,-1,rfl,.inl rfl,XQ _,rfl⟩
 rcases root with⟨g1,g2,g3⟩|⟨g1,q,g2,g3,g4,g5⟩
 ·grind
 rw[g5];simp only[Aa,Ic]
 rcases G0 s (by omega) r.Vol with⟨h1,h2⟩|⟨k,v,h1,h2,h3,_⟩
 ·rw[h1];rw[Aa,cF,Bu];have j:Mc (AW s) r.Vol=none:=Lb.1 h2;by_cases h3:s.Vols.length=3
  ·grind [Nv]
  have e3:((s.Vols.length:Int)==3)=false:=by simp;omega
  rw[e3,AA<|by grind [Nv]];rw[b];have k1:=Vz (body:=λq:List Vol×Int=>Iy s r q.1 q.2) s.Vols (λv=>decide<|v.Id<r.Vol) [] (by simp;omega)
   (λi v c hv ho=>by
    have hi:=(Ae.1 hv).1;simp only[Iy,FN hi,Ar,hv,Aa]
    grind [ad1,B5])
   (λc=>by simp[Fe,Iy])
  rw[Ao]at k1;rw[k1];simp only[Aa];have l:=cQ s.Vols r.Vol;rw[B5 (by simp;omega)];simp only[Aa];have k2:=Vz (body:=λq:List Vol×Int=>Ix s r q.1 q.2) s.Vols (λv=>decide<|v.Id>r.Vol) ((s.Vols.filter λv=>decide<|v.Id<r.Vol)++ [Vol.mk r.Vol q]) (by simp;omega)
   (λi v c hv ho=>by
    have hi:=(Ae.1 hv).1;simp only[Ix,FN hi,Ar,hv,Aa]
    grind [ad1,B5])
   (λc=>by simp[Fe,Ix])
  rw[k2];have f:((s.Vols.filter λv=>decide<|v.Id<r.Vol)++ [Vol.mk r.Vol q]++s.Vols.filter λv=>decide<|v.Id>r.Vol).length<=3:=by grind
  have g:∀x∈Bv s,x∈(Bv<|Store.mk ((s.Vols.filter λv=>decide<|v.Id<r.Vol)++ [Vol.mk r.Vol q]++s.Vols.filter λv=>decide<|v.Id>r.Vol) s.Arena s.Next):=by
   intro x hx;obtain⟨v,hv,rfl⟩:=Az.1 hx;refine Az.2 ⟨v,?_,rfl⟩
   grind
  have a:∀x∈(Bv<|Store.mk ((s.Vols.filter λv=>decide<|v.Id<r.Vol)++ [Vol.mk r.Vol q]++s.Vols.filter λv=>decide<|v.Id>r.Vol) s.Arena s.Next),x= -1\/x∈Bv s:=by
   intro x hx;obtain⟨v,hv,rfl⟩:=Az.1 hx;simp only[Aq,AC,Bs]at hv
   rcases hv with(hv|rfl)|hv
   ·exact .inr<|Az.2 ⟨v,hv.1,rfl⟩
   ·exact g3
   exact .inr<|Az.2 ⟨v,hv.1,rfl⟩
  refine⟨_,rfl,⟨⟨f,h.ar,h.nx,?_,Zd h.asc<|Vol.mk r.Vol q,?_,?_,h.few⟩,?_⟩,?_,rfl⟩
  ·intro v hv;simp only[Aq,AC,Bs]at hv
   rcases hv with(hv|rfl)|hv
   ·exact h.ids v hv.1
   ·grind
   exact h.ids v hv.1
  ·intro x hx
   rcases a x hx with e|e
   ·rw[e];rfl
   exact h.root x e
  ·intro x hx
   rcases a x hx with e|e
   ·intro y hy;rw[e]at hy;rw[XQ]at hy;have:=D8 hy;have:=h.nx
    grind
   exact h.lt x e
  ·intro i hi;exact iD g<|h.used i hi
  rw[<-g4];unfold dT AW;simp only[RZ,GZ,List.map_nil,List.filter_map];rfl
 rw[h1];have hg:=Js h.asc<|Am h2
 grind
theorem Or {f:α->Int} {l:List α} {v:α} (h:(l.map f).Pairwise (·<·)) (hv:l[k]?=some v):l.take k++l.drop (k+1)=l.filter λw=>f w !=f v:=by
 rw[JY]at h;have hk:=(Ae.1 hv).1;have e:l=l.take k++v::l.drop (k+1):=by grind [AS,BF]
 rw[e,AH]at h;obtain⟨h1,h2,h3⟩:=h;rw[BZ]at h2
 conv=>rhs;rw[e]
 rw[Cr,List.filter_cons_of_neg<|by simp]
 grind [Ee]
theorem oU (h:Cx s) (id:Int):QD (Store.mk (s.Vols.filter λw=>w.Id !=id) s.Arena s.Next):=by
 have hl:=h.len;refine⟨?_,h.ar,h.nx,λv hv=>h.ids v (AC.1 hv).1,?_,?_,?_,h.few⟩
 ·grind
 ·have:=h.asc
  grind
 ·intro x hx;obtain⟨w,hw,rfl⟩:=Az.1 hx;exact h.root _<|Az.2 ⟨w,(AC.1 hw).1,rfl⟩
 intro x hx;obtain⟨w,hw,rfl⟩:=Az.1 hx;exact h.lt _<|Az.2 ⟨w,(AC.1 hw).1,rfl⟩
theorem qA {t:Nat} (h:Cx s) (h2:s.Vols[k]?=some v) (ht:t<16) (hn:0<=n) (e:n+1<=1000000000):QD (Store.mk (s.Vols.set k (Vol.mk v.Id ((s.Arena.Knots.length:Int)+1))) (Arena.mk (IP s.Arena.Knots v.Root t n)) (max s.Next (n+1))):=by
 have hl:=h.len;have hm:=Am h2;have a:=h.root _<|Az.2 ⟨v,hm,rfl⟩;have f:=h.small
 have b:∀w∈s.Vols.set k (Vol.mk v.Id<|(s.Arena.Knots.length:Int)+1),w∈s.Vols\/w=Vol.mk v.Id ((s.Arena.Knots.length:Int)+1):=λw hw=>BY hw
 refine⟨by simpa using hl,nY h.ar a ht hn,?_,?_,?_,?_,?_,?_⟩
 ·have:=h.nx
  grind
 ·intro w hw
  rcases b w hw with hw|rfl
  ·exact h.ids w hw
  exact h.ids v hm
 ·have:(s.Vols.set k<|Vol.mk v.Id<|(s.Arena.Knots.length:Int)+1).map Vol.Id=s.Vols.map Vol.Id:=by
   rw[List.map_set];apply BB
   grind
  rw[this];exact h.asc
 ·intro x hx;obtain⟨w,hw,rfl⟩:=Az.1 hx
  rcases b w hw with hw|rfl
  ·exact fW<|h.root _<|Az.2 ⟨w,hw,rfl⟩
  exact dB
 ·intro x hx y hy;obtain⟨w,hw,rfl⟩:=Az.1 hx;show y<max s.Next (n+1)
  rcases b w hw with hw|rfl
  ·have d:=h.root _<|Az.2 ⟨w,hw,rfl⟩;have c:y∈DW s.Arena.Knots w.Root:=by rw[<-aX (X:=[BL.mk true<|Ol s.Arena.Knots v.Root t n,BL.mk false<|R1 s.Arena.Knots v.Root t]) h.ar d];exact hy
   have:=h.lt _ (Az.2 ⟨w,hw,rfl⟩) y c;omega
  have c:y∈(DW s.Arena.Knots v.Root).set t n:=by rw[<-bD (s:=t) (n:=n) h.ar a (by omega)];exact hy
  rcases BY c with c|rfl
  ·have:=h.lt _ (Az.2 ⟨v,hm,rfl⟩) y c;omega
  omega
 grind [IP]
theorem iM (h:Cx s) (r:CU):LX s r (RI s r):=by
 have hl:=h.len;have d:=PQ h.ar (by have:=h.few;omega);have c:=Jc s d (by omega);unfold RI;rw[QZ h,N7];simp only[Aa,Ay,Ad]
 cases hb:F5 r with
 |false=>grind [LX,Db]
 |true=>
  have hr:=hb;unfold F5 at hr
  cases k1:(r.Kind==1)with
  |true=>
   have e1:r.Kind=1:=by simpa using k1
   rw[e1]at hr;simp at hr;unfold LX Db;rw[hb,e1];have:(cond (r.Arg==0) (some 1) (some r.Arg):Option Int)=some (if r.Arg=0 then 1 else r.Arg):=by grind
   rw[this];refine⟨_,rfl,⟨⟨by simp,rfl,?_,by simp,by simp,by simp[Bv],by simp[Bv],by simp⟩,by simp⟩,rfl,rfl⟩
   grind
  |false=>
   have n1:r.Kind≠1:=by simpa using k1
   rw[k1]at hr
   cases k2:(r.Kind==2)with
   |true=>
    have:=dX h hb (by simpa using k2);have e:((J7 s r).bind λv4=>some (v4.1,v4.2))=J7 s r:=by cases J7 s r<;>rfl
    grind
   |false=>
    have n2:r.Kind≠2:=by simpa using k2
    unfold LX Db;rw[hb];simp only[Bool.true_eq_false,if_false,AA n1,AA n2]
    rcases G0 s (by omega) r.Vol with⟨h1,h2⟩|⟨k,v,h1,h2,h3,_⟩
    ·grind [Lb]
    rw[h1];simp only[Aa];rw[cF];simp only[Aa];have hm:=Am h2;have f:=(Ae.1 h2).1;have hg:=Js h.asc hm
    cases hc:(r.Chunk==1000000000)with
    |true=>grind
    |false=>
     have n:r.Chunk≠1000000000:=by simpa using hc
     rw[AA (by grind),c];simp only[Aa]
     cases k3:(r.Kind==3)with
     |true=>
      have e3:r.Kind=3:=by simpa using k3
      rw[Bc e3];rw[Bu,ad1];have d1:dr s.Vols 0 (k:Int)=some (s.Vols.take k):=by grind [dr]
      have d2:dr s.Vols ((k+1:Nat):Int) (s.Vols.length:Int)=some (s.Vols.drop<|k+1):=by grind [AY,dr]
      rw[d1,d2];simp only[Aa];rw[Mj (by simp;omega)];simp only[Aa];rw[B5 (by simp;omega),Or h.asc h2,h3];simp only[Aa];have hR:=oU h r.Vol;rw[Oh hR];refine⟨_,rfl,aQ hR,?_,rfl⟩;rw[UI hR];exact ZS s (λid=>id !=r.Vol) _ rfl rfl
     |false=>
      have n3:r.Kind≠3:=by simpa using k3
      rw[AA n3];have ha:0<=r.Arg/\r.Arg<16/\0<=r.Chunk/\r.Chunk<=1000000000:=by grind
      obtain⟨t,ht⟩:∃t:Nat,r.Arg=(t:Int):=⟨_,(AL ha.1).symm⟩;rw[Ar,h2];simp only[Aa];have a:=h.root _<|Az.2 ⟨v,hm,rfl⟩;rw[ht,Zo _ (by have:=h.few;omega) h.ar a (by omega) ha.2.2.1];simp only[Aa];rw[Ea];have hR:=qA h h2 (show t<16 by omega) ha.2.2.1 (show r.Chunk+1<=1000000000 by omega);have m:AW (Store.mk (s.Vols.set k<|Vol.mk v.Id<|(s.Arena.Knots.length:Int)+1) (Arena.mk<|IP s.Arena.Knots v.Root t r.Chunk)<|max s.Next<|r.Chunk+1)=cU (AW s) r.Vol t r.Chunk:=by
       unfold AW cU;simp only[Ef];apply BB;intro j;rw[Ka,Ka,He];by_cases e:k=j
       ·subst e;rw[Bc rfl,Bc f,h2];simp only[GC,Function.comp];rw[Bc h3,bD h.ar a<|by omega]
       rw[AA e]
       cases hj:s.Vols[j]? with
       |none=>rfl
       |some w=>
        have g:=Am hj;have i:w.Id≠r.Vol:=by
         intro e2;have gi:(s.Vols.map Vol.Id)[k]?=some v.Id:=by grind
         have gj:(s.Vols.map Vol.Id)[j]?=some w.Id:=by grind
         rcases OT k j with q|q|q
         ·have:=Pz h.asc q gi gj;omega
         ·exact e q
         grind
        simp only[GC,Function.comp];rw[AA i];have:=aX (X:=[BL.mk true<|Ol s.Arena.Knots v.Root t r.Chunk,BL.mk false<|R1 s.Arena.Knots v.Root t]) h.ar<|h.root _<|Az.2 ⟨w,g,rfl⟩
        grind [IP]
      have l:∀b:Bool,b=decide (r.Chunk>=s.Next)->(cond b ((E7<|Store.mk (s.Vols.set k<|Vol.mk v.Id<|(s.Arena.Knots.length:Int)+1) (Arena.mk<|IP s.Arena.Knots v.Root t r.Chunk)<|ad r.Chunk 1).bind λv11=>some (v11,true))<|(E7<|Store.mk (s.Vols.set k<|Vol.mk v.Id<|(s.Arena.Knots.length:Int)+1) (Arena.mk<|IP s.Arena.Knots v.Root t r.Chunk) s.Next).bind λv12=>some (v12,true))=(E7<|Store.mk (s.Vols.set k<|Vol.mk v.Id<|(s.Arena.Knots.length:Int)+1) (Arena.mk<|IP s.Arena.Knots v.Root t r.Chunk)<|max s.Next<|r.Chunk+1).bind λv=>some (v,true):=by grind [BN]
      rw[l _ rfl,Oh hR];refine⟨_,rfl,aQ hR,?_,rfl⟩
      grind [UI]
theorem gZ (s:ByteArray) (f a:Int):JA s f a=Ai (λn:Int=>EC s a f n) 0:=by
 show(Ai (λn:Int=>EC s a f n) 0).bind _=_;simp
theorem gX (s:ByteArray) (f a:Nat) (hf:f<a) (ha:a<=(L s).length) (hs:(L s).length<=64):∃k:Nat,Ai (λn:Int=>EC s (a:Int) (f:Int) n) 0=some (k:Int)/\k<=31/\a+k<=(L s).length:=by
 obtain⟨b,h1,k,rfl,h2,h3⟩:=AG (body:=λn:Int=>EC s (a:Int) (f:Int) n) (λ(_:Unit) i=>i) 31 (λi _=>a+i<=(L s).length) (λb=>∃k:Nat,b=(k:Int)/\k<=31/\a+k<=(L s).length)
  (λ_ i hi hs=>by
   simp only[EC];rw[cT,BN,BN,Bf];by_cases c:a+i<(L s).length
   ·rw[cT];have e1:((f:Int)+(i:Int))=((f+i:Nat):Int):=by omega
    have e2:((a:Int)+(i:Int))=((a+i:Nat):Int):=by omega
    rw[e1,e2,DF s (by omega),DF s c];simp only[Aa]
    cases((((L s)[f+i]).toNat:Int)==(((L s)[a+i]).toNat:Int))with
    |true=>
     rw[ad1];exact .inl ⟨(),rfl,by omega⟩
    |false=>grind
   grind)
  (λ_ hs=>by
   simp only[EC];rw[cF]
   exact⟨_,rfl,31,rfl,by omega,hs⟩) (s:=()) (by omega)
 grind
theorem Z7 (s:ByteArray) (a:Nat) (ha:a<=(L s).length) (hs:(L s).length<=64):∃z b:Nat,Qv s (a:Int)=some ((z:Int),(b:Int))/\Ai (λq:Int×Int×Int=>CO s (a:Int) q.1 q.2.1 q.2.2) (0,0,sb (a:Int) 1)=some ((z:Int),(b:Int))/\z<=31/\a+z<=(L s).length/\(z=0\/4<=z/\1<=b/\b<=a):=by
 have c:(λq:Int×Int×Int=>CO s (a:Int) q.1 q.2.1 q.2.2)=λq:Int×Int×Int=>FO s (a:Int) q.1 q.2.1 q.2.2:=by grind [gZ,CO,FO]
 rw[c,BH];obtain⟨r,h1,z,b,rfl,h2,h3,h4⟩:=AG (body:=λq:Int×Int×Int=>FO s (a:Int) q.1 q.2.1 q.2.2) (λ(q:Nat×Nat) i=>((q.1:Int),(q.2:Int),(a:Int)-1-i)) a (λi q=>q.1<=31/\a+q.1<=(L s).length/\(q.1=0\/4<=q.1/\1<=q.2/\q.2<=a)) (λr=>∃z b:Nat,r=((z:Int),(b:Int))/\z<=31/\a+z<=(L s).length/\(z=0\/4<=z/\1<=b/\b<=a))
  (λq i hi hq=>by
   obtain⟨k,m1,m2,m3⟩:=gX s (a-1-i) a (by omega) ha hs;have e1:((a:Int)-1-(i:Int))=((a-1-i:Nat):Int):=by omega
   simp only[FO,e1];rw[Ac (by omega:(((a-1-i:Nat)):Int)>=0),Ah,m1,Aa,BH,BH];refine .inl ?_;have e2:(((a-1-i:Nat):Int)-1)=(a:Int)-1-((i+1:Nat):Int):=by omega
   have e3:((a:Int)-((a-1-i:Nat):Int))=((1+i:Nat):Int):=by omega
   rw[e2,e3];by_cases h4:4<=k
   ·rw[cT];by_cases h5:q.1<k
    ·rw[Ac (by omega:(k:Int)>(q.1:Int))];exact⟨(k,1+i),rfl,m2,m3,.inr ⟨h4,by omega,by omega⟩⟩
    grind
   grind)
  (λq hq=>by
   simp only[FO]
   grind) (s:=(0,0)) ⟨by omega,by omega,.inl rfl⟩
 grind [BH,Qv]
def Pc (t:AE):Prop:=(t.Back=0/\t.Size=0/\1<=(L t.Text).length/\(L t.Text).length<=31)\/(1<=t.Back/\t.Back<=64/\4<=t.Size/\t.Size<=31/\L t.Text=[])
theorem E4 (l:List α) (x:α):gi (l++ [x]) (l.length:Int)=some x:=by
 rw[Ar];simp
theorem GJ (l:List α) (x y:α):si (l++ [x]) (l.length:Int) y=l++ [y]:=by
 rw[Ea];simp
theorem YE (s:ByteArray) (hs:(L s).length<=64):∃l,HS s=some l/\OK s=some l/\l.length<=64/\∀t∈l,Pc t:=by
 unfold HS OK;obtain⟨l,h1,h2,h3,h4⟩:=NJ (body:=λq:List AE×Int=>BE s q.1 q.2) (body':=λq:List AE×Int=>KD s q.1 q.2) (λq=>(L s).length-q.2.toNat)
  (λq=>∃a:Nat,q.2=(a:Int)/\a<=(L s).length/\q.1.length<=a/\∀t∈q.1,Pc t) (λl=>l.length<=64/\∀t∈l,Pc t)
  (by
   rintro⟨f,at_⟩ ⟨a,ha,h1,h2,h3⟩;simp only at ha h2 h3;subst ha;simp only[BE,KD];rw[Bf];by_cases i:a<(L s).length
   ·rw[Ac (by omega:(a:Int)<((L s).length:Int)),Ah,Ah];obtain⟨z,b,m1,m2,m3,m4,m5⟩:=Z7 s a h1 hs;rw[m1,m2];simp only[Aa]
    have c:∀x:AE,ap 32 f [x]=some (f++ [x]):=λx=>B5<|by grind
    refine .inl ?_;by_cases hz:z=0
    ·subst hz;have esub:sub s (a:Int) (ad (a:Int) 1)=some (s.extract a<|a+1):=by rw[ad1];exact Eh s (by omega) (by omega)
     have elen:(L<|s.extract a<|a+1).length=1:=by grind [H6]
     rw[esub,ad1,BH (by rw[Bu];omega) (by rw[Bu];omega),Bu]
     have ecat:∀x:ByteArray,(L x).length<=31->Q8 x (s.extract a<|a+1)=some (x++s.extract a (a+1)):=λx hx=>FB _ _ (by rw[elen];omega)
     have e0:Q8 (bs []) (s.extract a<|a+1)=some (s.extract a<|a+1):=by
      rw[ecat _ (by rw[D0];simp)];rfl
     have enew:Pc (AE.mk 0 0<|s.extract a<|a+1):= .inl ⟨rfl,rfl,by grind,by grind⟩
     have d:∀(o:List AE) (x:AE),(∀t∈o,Pc t)->Pc x->∀t∈o++ [x],Pc t:=λo x ho hx t ht=>by grind
     have fin:∀o:List AE,o.length<=a+1->(∀t∈o,Pc t)->(∃a':Nat,((a+1:Nat):Int)=(a':Int)/\a'<=(L s).length/\o.length<=a'/\∀t∈o,Pc t)/\(L s).length-(((a+1:Nat)):Int).toNat<(L s).length-((a:Int)).toNat:=λo g h=>⟨⟨a+1,rfl,by omega,g,h⟩,by omega⟩
     rcases E5 f with rfl|⟨o,x,rfl⟩
     ·simp only[IW,Int.ofNat_zero,Int.zero_sub];rw[Ac (by omega:(-1:Int)<0),Ag (by omega:¬(-1:Int)>=0)];simp only[Ah,Ad,Aa,c];rw[show ad (-1) 1=(([]:List AE).length:Int)from rfl];simp only[E4,Aa,e0,GJ];exact⟨_,rfl,rfl,fin _ (by simp)<|d _ _ (by simp) enew⟩
     rw[Hc]at h2 h3 c⊢;simp only[A3,Du]at h2⊢;have ek:(((o.length+1:Nat):Int)-1)=(o.length:Int):=by omega
     rw[ek,Ag (by omega:¬(o.length:Int)<0),Ac (by omega:(o.length:Int)>=0)];simp only[Ah,Ad,E4,Aa];have hx:=h3 x (by simp);have e:=d (o++ [x]) _ h3 enew;have elast:ad (o.length:Int) 1=((o++ [x]).length:Int):=by rw[ad1];simp
     rcases hx with⟨x1,x2,x3,x4⟩|⟨x1,x2,x3,x4,x5⟩
     ·rw[x1];simp only[show((0:Int)==0)=true from rfl,Ah,show decide ((0:Int)>0)=false from rfl,Ad];rw[Bf];by_cases h31:(L x.Text).length<31
      ·rw[Ac (by omega:((L x.Text).length:Int)<31),Ag (by omega:¬((L x.Text).length:Int)>=31)];simp only[Ah,Ad,Aa,E4,ecat _ x4,GJ];simp only[x1];refine⟨_,rfl,rfl,fin _ (by simp;omega)<|d _ _ (λt ht=>h3 t<|by simp[ht])<|.inl ⟨rfl,x2,?_,?_⟩⟩
       ·grind [FE]
       grind [FE]
      rw[Ag (by omega:¬((L x.Text).length:Int)<31),Ac (by omega:((L x.Text).length:Int)>=31)];simp only[Ah,Ad,Aa,c,elast,E4,e0,GJ];exact⟨_,rfl,rfl,fin _ (by simp;omega) e⟩
     have hb:(x.Back==0)=false:=by simp;omega
     rw[hb,Ac (by omega:x.Back>0)];simp only[Ah,Ad,Aa,c,elast,E4,e0,GJ];exact⟨_,rfl,rfl,fin _ (by simp;omega) e⟩
    rw[Ac (by omega:(z:Int)>0),Ah,Ah,c];rw[BN];refine⟨_,rfl,rfl,⟨a+z,by simp,by omega,by simp;omega,?_⟩,by simp only;omega⟩;intro t ht
    rcases Aq.1 ht with ht|ht
    ·exact h3 t ht
    rw[Bs]at ht;subst ht;refine .inr ⟨?_,?_,?_,?_,by rfl⟩<;>simp only<;>omega
   grind) ((L s).length) ([],0) (by simp) ⟨0,rfl,by omega,by simp,by simp⟩
 grind
theorem Sn (l m:List Int):L (Gy (l++m))=L (Gy l)++L (Gy m):=by grind [KG]
theorem MG (l:List Int):(L (Gy l)).length=l.length:=by rw[KG,Cf]
theorem fH (b:ByteArray):L (Gy (cV b))=L b:=by
 rw[KG,cV,Ef];have:((λn:Int=>UInt8.ofNat n.toNat)∘λc:UInt8=>(c.toNat:Int))=id:=by
  funext c;simp
 rw[this,Mn];rfl
theorem i9 (l:List Int) (b:ByteArray):rQ l b=ap 1 l (cV b):=by simp[cV,rQ,ap]
theorem VW (b:ByteArray):(cV b).length=(L b).length:=by simp[cV,L]
theorem YK (s:ByteArray):∃z ok,Dh s=some (z,ok)/\Ma s=some (z,ok)/\(ok=false->z=bs [])/\(ok=true->(L s).length<=64/\((L z)[0]?=some 122\/(L z)[0]?=some 114)):=by
 unfold Dh Ma;rw[Bf];by_cases hs:(L s).length<=64
 ·rw[Ag (by omega:¬((L s).length:Int)>64),Ad,Ad];obtain⟨l,t1,t2,t3,t4⟩:=YE s hs;rw[t1,t2];simp only[Aa];obtain⟨z,v,h1,h2,rfl,h3,h4⟩:=dM (body:=λq:ByteArray×Int=>Dv l q.1 q.2) (body':=λq:List Int×Int=>It l q.1 q.2) (λv i=>(Gy v,i)) (λv i=>(v,i)) l.length (λi v=>v.length<=1+33*i/\(L<|Gy v)[0]?=some 122) (λz v=>z=Gy v/\v.length<=4000/\(L<|Gy v)[0]?=some 122)
   (λv i hi hv=>by
    have hg:l[i]?=some l[i]:=Ab hi;have ht:=t4 _<|A4 hi;refine .inl ?_;simp only[Dv,It,IV,Ac hi,Ah,Ar,hg,Aa]
    have b:∀(a:ByteArray) (m:List Int),(L a).length<=4000->m.length<=2->Q8 a (Gy m)=some (a++Gy m):=λa m h1 h2=>FB _ _ (by rw[MG];omega)
    have h0:∀m:List Int,(L<|Gy<|v++m)[0]?=some 122:=λm=>by grind [Sn]
    rcases ht with⟨x1,x2,x3,x4⟩|⟨x1,x2,x3,x4,x5⟩
    ·rw[x1];simp only[show((0:Int)==0)=true from rfl,Ah,show decide ((0:Int)>0)=false from rfl,Ad];rw[b _ _ (by rw[MG];omega) (by simp),B5<|by grind];simp only[Aa];rw[FB _ _ (by grind [FE,MG]),i9,B5 (by rw[VW];grind)]
     grind [ad1,H5,FE,Sn,fH,VW]
    have hb:(l[i].Back==0)=false:=by simp;omega
    rw[hb,Ac (by omega:l[i].Back>0)];simp only[Ah,Ad];rw[b _ _ (by rw[MG];omega) (by simp),B5<|by grind];simp only[Aa];rw[ad1<|by omega];refine⟨v++ [IntKind.u8.wrap<|ad 128 l[i].Size,IntKind.u8.wrap l[i].Back],?_,rfl,?_,h0 _⟩
    ·grind [H5,FE,Sn]
    grind)
   (λv hv=>⟨_,_,by grind [IV,Dv],by grind [IV,It],rfl,by omega,hv.2⟩) (s:=[122]) ⟨by simp,by rw[KG];rfl⟩
  have e0:(Gy [122],(0:Int))=(bs [122],(0:Int)):=by rfl
  simp only[e0]at h1;rw[h1,h2];simp only[Aa];rw[Bf,MG,Bu,BN (by omega)<|by omega];by_cases hc:((L s).length:Int)+1<=(v.length:Int)
  ·rw[Ac hc,Ah,FB _ _ (by rw[D0];grind)];refine⟨_,true,rfl,rfl,by simp,λ_=>⟨hs,.inr ?_⟩⟩;rfl
  simp_all [Ag]
 simp_all;grind
def MC (t:AE):Prop:=(t.Back=0/\t.Size=0/\1<=(L t.Text).length/\(L t.Text).length<=31)\/(t.Back≠0/\1<=t.Size/\t.Size<=31/\L t.Text=[])
theorem Xd:NM=Ep:=by grind [Yv,Tb,i9,NM,Ep,PE,CQ,ln,PD,C3]
theorem Ml (l:List AE) (hl:l.length<=1048576):∃p ok,Ep l=some (p,ok)/\(ok=true->∀t∈l,MC t):=by
 unfold Ep;obtain⟨r,h1,h2⟩:=AG (body:=λq:List Int×Int=>CQ l q.1 q.2) (λ(o:List Int) i=>(o,i)) l.length (λi o=>o.length<=64/\∀(j:Nat) t,j<i->l[j]?=some t->MC t) (λr=>(∃o,r= .inl o/\∀t∈l,MC t)\/r= .inr (bs [],false))
  (λo i hi ho=>by
   have hg:l[i]?=some l[i]:=Ab hi;simp only[CQ,FN hi,Ar,hg,Aa,Tb];have good:∀(o':List Int),MC l[i]->(∃s',(some (.inl o':(List Int)⊕(List Int×Int)⊕(List Int)⊕(ByteArray×Bool))).bind (Sum.elim (λj1=>cond (decide<|(ln j1)>64) (some<|.inr<|.inr (bs [],false))<|some<|.inl (j1,ad (i:Int) 1)) some)=some (.inl (s',((i+1:Nat):Int)))/\s'.length<=64/\∀(j:Nat) t,j<i+1->l[j]?=some t->MC t)\/∃b,(some (.inl o':(List Int)⊕(List Int×Int)⊕(List Int)⊕(ByteArray×Bool))).bind (Sum.elim (λj1=>cond (decide<|(ln j1)>64) (some<|.inr<|.inr (bs [],false))<|some<|.inl (j1,ad (i:Int) 1)) some)=some (.inr b)/\((∃o,b= .inl o/\∀t∈l,MC t)\/b= .inr (bs [],false)):=by grind [Bu,ad1]
   by_cases hb:l[i].Back=0
   ·rw[hb];rw[Bf];by_cases hx:(1<=(L l[i].Text).length/\(L l[i].Text).length<=31)/\l[i].Size=0
    ·obtain⟨⟨c,d⟩,a⟩:=hx;rw[Ac (by omega:(1:Int)<=((L l[i].Text).length:Int)),Ac (by omega:((L l[i].Text).length:Int)<=31),a];rw[B5 (by rw[VW];omega)];exact good _<|.inl ⟨hb,a,c,d⟩
    grind
   have hb':(l[i].Back==0)=false:=by simpa using hb
   rw[hb'];rw[Bu,Mr,D0];by_cases hx:(1<=l[i].Back/\l[i].Back<=(o.length:Int))/\(1<=l[i].Size/\l[i].Size<=31)/\L l[i].Text=[]
   ·obtain⟨⟨y1,y2⟩,⟨y3,y4⟩,y5⟩:=hx;rw[Ac y1,Ac y2,Ac y3,Ac y4,Ac y5];obtain⟨o',q1,q2⟩:=AG (body:=λq:List Int×Int=>C3 l[i] q.1 q.2) (λ(o:List Int) k=>(o,k)) l[i].Size.toNat (λk u=>u.length=o.length+k) (λ_=>True)
     (λu k hk hu=>by grind [BH,Bu,Mv,B5,ad1,C3])
     (λu hu=>⟨u,by grind [C3],trivial⟩) (s:=o) (by omega)
    rw[q1];exact good _<|.inr ⟨hb,y3,y4,y5⟩
   grind)
  (λo ho=>⟨_,by simp[Fe,CQ],.inl ⟨o,rfl,λt ht=>by
   obtain⟨j,hj,rfl⟩:=Au ht
   simp_all⟩⟩) (s:=[]) ⟨by simp,λj t hj=>by omega⟩
 grind
theorem R9 (c:UInt8):IntKind.i64.wrap (c.toNat:Int)=(c.toNat:Int):=KH (by omega) (by have:=c.toNat_lt;omega)
theorem UF (rem:ByteArray) (a:List AE) (h:0<(L rem).length) (ho:a.length<=1048576) (hr:(L rem).length<=1048576):
  C0 rem a=some (if 128<=(L rem)[0].toNat/\2<=(L rem).length then .inl (rem.extract 2 (L rem).length,a++ [AE.mk (((L rem)[1]?.getD 0).toNat:Int) (((L rem)[0].toNat:Int)-128) (bs [])])
   else if(L rem)[0].toNat<128/\(L rem)[0].toNat<(L rem).length then .inl (rem.extract (1+(L rem)[0].toNat) (L rem).length,a++ [AE.mk 0 0 (rem.extract 1 (1+(L rem)[0].toNat))])
   else .inr (.inr ([],false))):=by
 have d:=(L rem)[0].toNat_lt;have b:seq rem (bs [])=false:=by grind [Mr,D0]
 have c:∀x:AE,ap 32 a [x]=some (a++ [x]):=λx=>B5<|by grind
 unfold C0;rw[b];have s0:sx rem 0=some ((L rem)[0].toNat:Int):=DF rem (i:=0) h;simp only[Ez,Ah,s0,Aa,R9,Bf,c];have c0:ad 1 ((L rem)[0].toNat:Int)=((1+(L rem)[0].toNat:Nat):Int):=by rw[BN];omega
 rw[c0];by_cases h1:128<=(L rem)[0].toNat
 ·rw[Ac (by omega:((L rem)[0].toNat:Int)>=128),Ag (by omega:¬((L rem)[0].toNat:Int)<128)];simp only[Ah,Ad,Aa];by_cases h2:2<=(L rem).length
  ·grind [DF,Eh,BH,R9,L,sub]
  grind
 rw[Ag (by omega:¬((L rem)[0].toNat:Int)>=128),Ac (by omega:((L rem)[0].toNat:Int)<128),AA λe=>h1 e.1];simp only[Ah,Ad,Aa];simp_all [L,sub];grind
theorem Xt (rem:ByteArray) (a:List AE) (h:(L rem).length=0):C0 rem a=some (.inr (.inl a)):=by grind [Mr,D0,C0]
theorem UE (t:ByteArray) (b:List AE) (a:Nat) (h:a<(L t).length) (ho:b.length<=1048576) (hr:(L t).length<=1048576):
  Bo t b (a:Int)=some (if 128<(L t)[a].toNat then(if a+2<=(L t).length then .inl (b++ [AE.mk (((L t)[a+1]?.getD 0).toNat:Int) (((L t)[a].toNat:Int)-128) (bs [])],((a+2:Nat):Int))else .inr (.inr (b,false)))
   else if a+1+(L t)[a].toNat<=(L t).length then .inl (b++ [AE.mk 0 0 (t.extract (a+1) (a+1+(L t)[a].toNat))],((a+1+(L t)[a].toNat:Nat):Int))
   else .inr (.inr (b,false))):=by
 have d:=(L t)[a].toNat_lt
 have c:∀x:AE,ap 32 b [x]=some (b++ [x]):=λx=>B5<|by grind
 have c2:ad (a:Int) 2=((a+2:Nat):Int):=by rw[BN];omega
 have c3:ad ((a+1:Nat):Int) ((L t)[a].toNat:Int)=((a+1+(L t)[a].toNat:Nat):Int):=by rw[BN];omega
 unfold Bo;rw[Bf,cT,DF t h];simp only[Aa,R9,c];rw[c2,ad1,c3];by_cases h1:128<(L t)[a].toNat
 ·rw[cT,Bc h1];by_cases h2:a+2<=(L t).length
  ·rw[cF,Bc h2,DF t (by omega:a+1<(L t).length),BH]
   grind [R9]
  grind
 rw[cF,AA h1];by_cases h2:a+1+(L t)[a].toNat<=(L t).length
 ·rw[Ag (by omega:¬((a+1+(L t)[a].toNat:Nat):Int)>((L t).length:Int)),Ad,Bc h2,Eh t (by omega) h2];rfl
 grind
theorem Si (t:ByteArray) (b:List AE) (a:Nat) (h:(L t).length<=a):Bo t b (a:Int)=some (.inr (.inl b)):=by grind [Bf,Bo]
theorem fB (rem:ByteArray) (a:List AE) (h:a.length+(L rem).length<=1048576):∃r,Ai (λq:ByteArray×List AE=>C0 q.1 q.2) (rem,a)=some r/\((∃l,r= .inl l/\l.length<=1048576/\∀t∈a,t∈l)\/r= .inr ([],false)):=by
 obtain⟨r,h1,_,h2⟩:=NJ (body:=λq:ByteArray×List AE=>C0 q.1 q.2) (body':=λq:ByteArray×List AE=>C0 q.1 q.2) (λq=>(L q.1).length) (λq=>q.2.length+(L q.1).length<=1048576/\∀t∈a,t∈q.2) (λr=>(∃l,r= .inl l/\l.length<=1048576/\∀t∈a,t∈l)\/r= .inr ([],false))
  (by grind [Xt,UF,H6]) _ (rem,a) (A5 _) ⟨h,λt ht=>ht⟩
 grind
theorem fA (t:ByteArray) (b:List AE) (a:Nat) (ha:a<=(L t).length) (h:b.length<=a) (hr:(L t).length<=1048576):∃r,Ai (λq:List AE×Int=>Bo t q.1 q.2) (b,(a:Int))=some r/\((∃l,r= .inl l/\l.length<=1048576/\∀x∈b,x∈l)\/∃l,r= .inr (l,false)/\l.length<=1048576):=by
 obtain⟨r,h1,_,h2⟩:=NJ (body:=λq:List AE×Int=>Bo t q.1 q.2) (body':=λq:List AE×Int=>Bo t q.1 q.2) (λq=>(L t).length-q.2.toNat) (λq=>∃a:Nat,q.2=(a:Int)/\a<=(L t).length/\q.1.length<=a/\∀x∈b,x∈q.1) (λr=>(∃l,r= .inl l/\l.length<=1048576/\∀x∈b,x∈l)\/∃l,r= .inr (l,false)/\l.length<=1048576)
  (by
   rintro⟨o,at_⟩ ⟨a,ha,hl,hb,ho⟩;simp only at ha hb ho;subst ha;simp only
   rcases R8 a (L t).length with h0|h0
   ·rw[UE t o a h0 (by omega) hr];split
    ·split
     ·simp_all;grind
     grind
    split
    ·simp_all;grind
    grind
   grind [Si]) _ (b,(a:Int)) (A5 _) ⟨a,rfl,ha,h,λt ht=>ht⟩
 grind
theorem e9 (t:ByteArray) (hr:(L t).length<=1048576):∀(n a:Nat) (rem:ByteArray) (b:List AE),(L t).length-a<=n->a<=(L t).length->L rem=(L t).drop a->b.length<=a->
  ∃ri rs,Ai (λq:ByteArray×List AE=>C0 q.1 q.2) (rem,b)=some ri/\Ai (λq:List AE×Int=>Bo t q.1 q.2) (b,(a:Int))=some rs/\
   ((∃l,ri= .inl l/\rs= .inl l/\l.length<=1048576)\/((ri= .inr ([],false)\/∃l,ri= .inl l/\l.length<=1048576/\∃x∈l,¬MC x)/\((∃l,rs= .inr (l,false)/\l.length<=1048576)\/∃l,rs= .inl l/\l.length<=1048576/\∃x∈l,¬MC x))):=by
 intro n
 induction n with
 |zero=>grind [Aw,Xt,Si]
 |succ n ih=>
  intro a rem b h1 h2 h3 h4
  rcases R8 a (L t).length with h0|h0
  ·have j:(L rem).length=(L t).length-a:=by rw[h3];simp
   have e:0<(L rem).length:=by omega
   have g:(L rem)[0]=(L t)[a]:=by grind
   have h:(L rem)[1]?.getD 0=(L t)[a+1]?.getD 0:=by grind
   have c:=UF rem b e (by omega) (by omega);have f:=UE t b a h0 (by omega) hr
   have d:∀k,L (rem.extract k (L rem).length)=(L t).drop (a+k):=λk=>by grind [H6,De,AY]
   rw[g,h]at c
   rcases OT (L t)[a].toNat 128 with hc|hc|hc
   ·rw[AA<|by omega]at c;by_cases hk:a+1+(L t)[a].toNat<=(L t).length
    ·obtain⟨ri,rs,q1,q2,q3⟩:=ih (a+1+(L t)[a].toNat) (rem.extract (1+(L t)[a].toNat) (L rem).length) (b++ [AE.mk 0 0<|t.extract (a+1)<|a+1+(L t)[a].toNat]) (by omega) hk (by grind) (by grind);have etx:rem.extract 1 (1+(L t)[a].toNat)=t.extract (a+1) (a+1+(L t)[a].toNat):=by grind [H5,H6,De]
     refine⟨ri,rs,?_,?_,q3⟩
     ·rw[Aw]
      grind
     grind [Aw]
    grind [Aw]
   ·
    have hI:∃ri,Ai (λq:ByteArray×List AE=>C0 q.1 q.2) (rem,b)=some ri/\(ri= .inr ([],false)\/∃l,ri= .inl l/\l.length<=1048576/\∃x∈l,¬MC x):=by
     by_cases hk:2<=(L rem).length
     ·obtain⟨r,q1,q2⟩:=fB (rem.extract 2 (L rem).length) (b++ [AE.mk (((L t)[a+1]?.getD 0).toNat:Int) (((L t)[a].toNat:Int)-128)<|bs []]) (by grind);refine⟨r,by rw[Aw];grind,?_⟩
      rcases q2 with⟨l,rfl,q3,q4⟩|rfl
      ·refine .inr ⟨l,rfl,q3,_,q4 _<|Bq _<|Bs.2 rfl,?_⟩;intro hk
       rcases hk with⟨_,_,k3,_⟩|⟨_,k2,_⟩
       ·grind [D0]
       grind
      exact .inl rfl
     grind [Aw]
    have hS:∃rs,Ai (λq:List AE×Int=>Bo t q.1 q.2) (b,(a:Int))=some rs/\((∃l,rs= .inr (l,false)/\l.length<=1048576)\/∃l,rs= .inl l/\l.length<=1048576/\∃x∈l,¬MC x):=by
     by_cases hk:a+1+(L t)[a].toNat<=(L t).length
     ·obtain⟨r,q1,q2⟩:=fA t (b++ [AE.mk 0 0<|t.extract (a+1)<|a+1+(L t)[a].toNat]) (a+1+(L t)[a].toNat) hk (by grind) hr;refine⟨r,by rw[Aw];grind,?_⟩
      rcases q2 with⟨l,rfl,q3,q4⟩|⟨l,rfl,q3⟩
      ·refine .inr ⟨l,rfl,q3,_,q4 _<|Bq _<|Bs.2 rfl,?_⟩;intro i
       rcases i with⟨_,_,_,k4⟩|⟨k1,_⟩
       ·simp only[H6,Ev,Lk]at k4;omega
       exact k1 rfl
      grind
     grind [Aw]
    obtain⟨ri,q1,q2⟩:=hI;obtain⟨rs,q3,q4⟩:=hS;exact⟨ri,rs,q1,q3,.inr ⟨q2,q4⟩⟩
   by_cases hk:a+2<=(L t).length
   ·obtain⟨ri,rs,q1,q2,q3⟩:=ih (a+2) (rem.extract 2 (L rem).length) (b++ [AE.mk (((L t)[a+1]?.getD 0).toNat:Int) (((L t)[a].toNat:Int)-128)<|bs []]) (by omega) hk (d 2) (by grind);exact⟨ri,rs,by rw[Aw];grind,by rw[Aw];grind,q3⟩
   grind [Aw]
  grind [Aw,Si]
theorem gB (t:ByteArray) (hr:(L t).length<=1048576):∃li oi ls os pi ki ps ks,OI t=some (li,oi)/\I2 t=some (ls,os)/\NM li=some (pi,ki)/\Ep ls=some (ps,ks)/\((oi=os/\pi=ps/\ki=ks)\/((oi=false\/ki=false)/\(os=false\/ks=false))):=by
 obtain⟨ri,rs,q1,q2,q3⟩:=e9 t hr ((L t).length) 0 t [] (by omega) (by omega) (by simp) (by simp);have e0:(([]:List AE),((0:Nat):Int))=([],0):=rfl;simp only[e0]at q2;unfold OI I2;rw[q1,q2,Xd];have none:∀l:List AE,l.length<=1048576->(∃x∈l,¬MC x)->∃p,Ep l=some (p,false):=by
  rintro l hl ⟨x,hx,hn⟩;obtain⟨p,ok,h1,h2⟩:=Ml l hl
  cases ok with
  |false=>exact⟨p,h1⟩
  |true=>grind
 rcases q3 with⟨l,rfl,rfl,hl⟩|⟨hi,hs⟩
 ·obtain⟨p,ok,h1,_⟩:=Ml l hl;exact⟨l,true,l,true,p,ok,p,ok,rfl,rfl,h1,h1,.inl ⟨rfl,rfl,rfl⟩⟩
 have hI:∃li oi pi ki,(some ri).bind (Sum.elim (λv1=>some (v1,true)) some)=some (li,oi)/\Ep li=some (pi,ki)/\(oi=false\/ki=false):=by
  rcases hi with rfl|⟨l,rfl,hl,hb⟩
  ·obtain⟨p,ok,h1,_⟩:=Ml [] (by simp)
   grind
  obtain⟨p,h1⟩:=none l hl hb;simp_all
 have hS:∃li oi pi ki,(some rs).bind (Sum.elim (λv1=>some (v1,true)) some)=some (li,oi)/\Ep li=some (pi,ki)/\(oi=false\/ki=false):=by grind [Ml]
 obtain⟨li,oi,pi,ki,a1,a2,a3⟩:=hI;obtain⟨ls,os,ps,ks,b1,b2,b3⟩:=hS;exact⟨li,oi,ls,os,pi,ki,ps,ks,a1,b1,a2,b2,.inr ⟨a3,b3⟩⟩
theorem Ou (t:ByteArray) (hr:(L t).length<=1048576):∃u ok,DU t=some (u,ok)/\LZ t=some (u,ok)/\(ok=false->u=bs [])/\(ok=true->(L u).length<=64):=by
 unfold DU LZ;rw[Bf,Mr,D0];by_cases h0:L t=[]
 ·simp_all
 have a:0<(L t).length:=by grind
 have e1:(((L t).length:Int)==0)=false:=by simp;exact h0
 rw[e1,Ag h0,Ad,Ad];have s1:sub t 1 ((L t).length:Int)=some (t.extract 1 (L t).length):=Eh t (i:=1) (by omega)<|A5 _;have s0:sx t 0=some ((L t)[0].toNat:Int):=DF t (i:=0) a;rw[s1,s0];simp only[Aa];generalize hx:t.extract 1 (L t).length=x;have b:(L x).length<=1048576:=by grind [H6]
 obtain⟨li,oi,ls,os,pi,ki,ps,ks,a1,a2,a3,a4,a5⟩:=gB x b;rw[a1,a2];simp only[Aa];rw[a3,a4];simp only[Aa];have back:∀j:ByteArray,∃u ok,((Dh j).bind λv3=>(cond (!v3.2) (some true) (some<|!(seq v3.1 t)):Option Bool).bind λj2=>cond j2 (some (bs [],false)) (some (j,true)):Option (ByteArray×Bool))=some (u,ok)/\
   ((Ma j).bind λv3=>(cond (!v3.2) (some true) (some<|!(seq v3.1 t)):Option Bool).bind λj2=>cond j2 (some (bs [],false)) (some (j,true)):Option (ByteArray×Bool))=some (u,ok)/\(ok=false->u=bs [])/\(ok=true->(L u).length<=64/\((L t)[0].toNat=122\/(L t)[0].toNat=114)):=by
  intro j;obtain⟨z,ok,p1,p2,p3,p4⟩:=YK j;rw[p1,p2];simp only[Aa]
  cases ok with
  |false=>simp
  |true=>
   simp only[Ay,Ad,Aa]
   cases hz:seq z t with
   |false=>simp
   |true=>
    have c:z=t:=by grind [J4]
    obtain⟨p5,p6⟩:=p4 rfl;refine⟨_,true,rfl,rfl,by simp,λ_=>⟨p5,?_⟩⟩;rw[c,Ab a]at p6
    rcases p6 with p6|p6
    ·simp_all
    simp_all
 by_cases h122:(L t)[0].toNat=122
 ·have c1:((((L t)[0].toNat:Nat):Int)==122)=true:=by simp[h122]
  have c2:((((L t)[0].toNat:Nat):Int) !=114)=true:=by simp[h122]
  rw[c1,c2];simp only[Ah]
  rcases a5 with⟨rfl,rfl,rfl⟩|⟨hi,hs⟩
  ·cases oi with
   |false=>simp
   |true=>
    cases ki with
    |false=>simp
    |true=>simp_all
  grind
 have c1:((((L t)[0].toNat:Nat):Int)==122)=false:=by simp;omega
 rw[c1];simp only[Ad,Aa,Ic];by_cases h114:(L t)[0].toNat=114
 ·simp_all
 have c2:((((L t)[0].toNat:Nat):Int) !=114)=true:=by simp;omega
 rw[c2];simp only[Ah];have nope:∀(j u:ByteArray) (ok:Bool),(ok=true->(L u).length<=64/\((L t)[0].toNat=122\/(L t)[0].toNat=114))->ok=false:=by grind
 obtain⟨u,ok,b1,b2,b3,b4⟩:=back x;have k1:=nope x u ok b4;subst k1;have k2:=b3 rfl;subst k2;refine⟨bs [],false,b1,?_,by simp,by simp⟩
 cases oi with
 |false=>rfl
 |true=>
  cases ki with
  |false=>rfl
  |true=>
   simp only[Ay,Ad,Aa,Ic];obtain⟨u,ok,d1,d2,d3,d4⟩:=back pi
   grind
def Xm (x:BL):Nat:=x.Kids.length
def eZ (x:Arena):Nat:=zl Xm x.Knots
def PZ (x:Store):Nat:=x.Vols.length+eZ x.Arena
def OV (x:A0):Nat:=MA x.Flash+PZ x.Store
def Nl (x:Leaf):Nat:=bif x.Is==0 then 1 else 0
theorem iY (l:List Leaf):(l.map Nl).sum<=l.length:=by
 induction l with
 |nil=>simp
 |cons x l ih=>grind [Nl]
theorem VF (b:Block) (h:b.Leaves.length<=1048576):KY b=some ((b.Leaves.map Nl).sum:Int):=by
 unfold KY;obtain⟨v,h1,rfl⟩:=AG (body:=λs:Int×Int=>F9 b s.1 s.2) (λ(s:Int) i=>(s,i)) b.Leaves.length (λk s=>s=(((b.Leaves.take k).map Nl).sum:Nat)) (λv=>v=((b.Leaves.map Nl).sum:Nat))
  (λs k hk hs=>by
   have hx:b.Leaves[k]?=some b.Leaves[k]:=Ab hk;have e:=MF Nl b.Leaves k hk;have e2:=Kc Nl b.Leaves<|k+1;have e3:=iY b.Leaves;refine .inl ?_;simp only[F9,FN hk,Ar,hx,Aa]
   grind [BN,Nl])
  (λs hs=>⟨s,by simp[Fe,F9],by grind⟩) (s:=0) (by simp)
 rw[h1];rfl
theorem eL (f:Flash) (hf:Uv f) (hn:nl f.Blocks<=1048576):∃v:Int,JB f=some v/\Yo f=some v/\0<=v/\v<=nl f.Blocks:=by
 unfold JB Yo;obtain⟨v,h1,h2,h3⟩:=KU (body:=λs:Int×Int=>I6 f s.1 s.2) (body':=λs:Int×Int=>Kx f s.1 s.2) (λ(s:Int) i=>(s,i)) (λ(s:Int) i=>(s,i)) f.Blocks.length (λi n=>0<=n/\n<=(((f.Blocks.take i).map λb=>b.Leaves.length).sum:Nat)) (λv=>0<=v/\v<=nl f.Blocks)
  (λn i hi hs=>by
   have hb:f.Blocks[i]?=some f.Blocks[i]:=Ab hi;have hm:f.Blocks[i]∈f.Blocks:=A4 _;have d:=MF (λb:Block=>b.Leaves.length) f.Blocks i hi;have g:=Kc (λb:Block=>b.Leaves.length) f.Blocks<|i+1;unfold nl at hn;have h:=hf.1;have c:=hf.2 _ hm;have j:=iY f.Blocks[i].Leaves;refine .inl ?_;simp only[I6,Kx,FN hi,Ar,hb,Aa,VF _ c];obtain⟨u,q1,rfl⟩:=AG (body:=λs:Int×Int=>I5 f (i:Int) s.1 s.2) (λ(s:Int) i=>(s,i)) f.Blocks[i].Leaves.length (λk s=>s=n+(bif f.Blocks[i].Bad then 0 else((f.Blocks[i].Leaves.take k).map Nl).sum:Nat)) (λv=>v=n+(bif f.Blocks[i].Bad then 0 else(f.Blocks[i].Leaves.map Nl).sum:Nat))
    (λs k hk hs=>by
     have hx:f.Blocks[i].Leaves[k]?=some f.Blocks[i].Leaves[k]:=Ab hk;have e:=MF Nl f.Blocks[i].Leaves k hk;have e2:=Kc Nl f.Blocks[i].Leaves<|k+1;refine .inl ?_;simp only[I5,Ar,hb,Aa,FN hk,hx]
     cases a:f.Blocks[i].Bad with
     |true=>
      rw[a]at hs;simp only[Ay,Ad,Ah]at hs⊢;rw[ad1]
      grind
     |false=>
      rw[a]at hs;simp only[Ez,Ad,Ah]at hs⊢;have e4:Nl f.Blocks[i].Leaves[k]=bif f.Blocks[i].Leaves[k].Is==0 then 1 else 0:=rfl
      cases hb:f.Blocks[i].Leaves[k].Is==0 with
      |true=>
       rw[hb]at e4;simp only[Ah]at e4⊢;rw[ad1,BN]
       grind
      |false=>
       rw[hb]at e4;simp only[Ad]at e4⊢;rw[ad1]
       grind)
    (λs hs=>⟨s,by simp_all [Ar,Fe,I5],by grind⟩) (s:=n) (by grind)
   rw[q1];simp only[Aa]
   cases f.Blocks[i].Bad with
   |true=>
    simp only[Ah,Ay,Ad];rw[ad1]
    grind
   |false=>
    simp only[Ah,Ez,Ad];rw[ad1,BN]
    grind)
  (λn hs=>by
   rw[Ig]at hs
   exact⟨n,by simp[Fe,I6],by simp[Fe,Kx],hs⟩) (s:=0) (by simp)
 grind
def Uw (a:Arena):Prop:=a.Knots.length<=1048576
theorem bX (x a b:Int):Bj x a b=some (decide (a<=x/\x<=b)):=by
 rw[Tb];simp
theorem Xk (a:Arena):Qy a=Er a:=by
 unfold Qy Er
 grind [Yv,PH,CR,gi,PG,Dr]
def Nj (a:Arena) (i:Nat) (k:BL) (n:Int):Prop:=if k.Leaf=true then 0<=n else n= -1\/(0<=n/\n<i/\∃k',gi a.Knots n=some k'/\k'.Leaf=true)
theorem aJ (a:Arena) (ha:Uw a):∃v,Er a=some v/\(v=true->∀(i:Nat) k,a.Knots[i]?=some k->k.Kids.length=4/\∀n∈k.Kids,Nj a i k n):=by
 unfold Uw at ha;unfold Er;obtain⟨r,h1,h2⟩:=AG (body:=λs:Int=>CR a s) (λ(_:Unit) i=>i) a.Knots.length (λi _=>∀(j:Nat) k,j<i->a.Knots[j]?=some k->k.Kids.length=4/\∀n∈k.Kids,Nj a j k n) (λr=>r= .inr false\/r= .inl ()/\∀(i:Nat) k,a.Knots[i]?=some k->k.Kids.length=4/\∀n∈k.Kids,Nj a i k n)
  (λ_ i hi hs=>by
   obtain⟨k,hk⟩:∃k,a.Knots[i]?=some k:=⟨_,Ab hi⟩;simp only[CR,FN hi,Ar,hk,Aa];by_cases h4:k.Kids.length=4
   ·have e1:(ln k.Kids !=4)=false:=by simp[ln,h4]
    simp only[e1,Ad];obtain⟨r,q1,q2⟩:=AG (body:=λs:Int=>Dr a (i:Int) k s) (λ(_:Unit) j=>j) 4 (λj _=>∀(m:Nat) n,m<j->k.Kids[m]?=some n->Nj a i k n) (λr=>r= .inr (.inr<|.inr false)\/r= .inl ()/\∀n∈k.Kids,Nj a i k n)
     (λ_ j hj b=>by
      obtain⟨n,hn⟩:∃n,k.Kids[j]?=some n:=⟨_,Ab<|by omega⟩;simp only[Dr];rw[cT,Ar,hn];simp only[Aa]
      have good:Nj a i k n->(∃s':Unit,(cond false (some<|.inr<|.inr<|.inr<|.inr false) (some<|.inl<|ad (j:Int) 1):Option (Int⊕Unit⊕Int⊕Unit⊕Bool))=some (.inl ((j+1:Nat):Int))/\∀(m:Nat) n,m<j+1->k.Kids[m]?=some n->Nj a i k n):=λc=>by
       refine⟨(),by rw[Ad,ad1],λm n' hm d=>?_⟩
       grind
      cases hl:k.Leaf with
      |true=>
       simp only[Ah,Ay,Ad];by_cases h0:n<0
       ·grind
       rw[Ag h0,Ad];exact .inl<|good<|by grind [Nj]
      |false=>
       by_cases h1:n= -1
       ·have:(n != -1)=false:=by simp[h1]
        rw[this];exact .inl<|good (by unfold Nj;grind)
       have:(n != -1)=true:=by simp[h1]
       rw[this];rw[BH,bX];simp only[Aa];by_cases h2:0<=n/\n<=(i:Int)-1
       ·rw[Ac h2];rw[Mv h2.1<|by omega];simp only[Aa]
        cases e:(a.Knots[n.toNat]'(by omega)).Leaf with
        |true=>
         refine .inl<|good ?_
         grind [Mv,Nj]
        |false=>grind
       grind)
     (λ_ b=>⟨_,by rfl,.inr ⟨rfl,λn hn=>by
      obtain⟨m,hm,rfl⟩:=Au hn
      simp_all;grind⟩⟩) (s:=()) (λm n hm=>by omega)
    have q1':Ai (λs:Int=>Dr a (i:Int) k s) 0=some r:=q1;rw[q1']
    rcases q2 with rfl|⟨rfl,q2⟩
    ·grind
    rw[ad1];refine .inl ⟨(),rfl,λj k' hj f=>?_⟩
    grind
   grind [ln])
  (λ_ hs=>⟨_,by simp[Fe,CR],.inr ⟨rfl,λi k hk=>hs i k (Ae.1 hk).1 hk⟩⟩) (s:=()) (λj k hj=>by omega)
 have h1':Ai (λs:Int=>CR a s) 0=some r:=h1;rw[h1']
 rcases h2 with rfl|⟨rfl,h2⟩
 ·simp
 exact⟨_,rfl,λ_=>h2⟩
theorem YM (a:Arena) (ha:Uw a) (root:Int) (s:Nat) (hs:s<16):∃v,L9 a root (s:Int)=some v/\RQ a root (s:Int)=some v:=by
 have f:a.Knots.length<=1048576:=ha;obtain⟨ok,h1,h2⟩:=aJ a ha;unfold L9 RQ;rw[Xk,h1,Yv];simp only[Aa,bX];rw[Ac (by omega:(0:Int)<=(s:Int)/\(s:Int)<=15)];simp only[Ay,Ad,Aa];have d:∃b,Td a root=some b/\EO a root=some (b||root== -1)/\(b=true->0<=root/\∃k,gi a.Knots root=some k/\k.Leaf=false):=by
  unfold Td EO;rw[Yv,BH (by rw[Bu];omega) (by rw[Bu];omega),Bu,bX]
  grind [Mv]
 obtain⟨b,r1,r2,r3⟩:=d;rw[r1,r2];simp only[Aa]
 cases ok with
 |false=>simp
 |true=>
  simp only[Ay,Ad]
  cases b with
  |false=>simp_all [J9];grind
  |true=>
   obtain⟨hr,k,hk,hl⟩:=r3 rfl;simp only[Bool.true_or,Ay,Ad,Aa,J9,Tc,hk];rw[cF];obtain⟨g1,g2⟩:=C6 hk;obtain⟨k4,kk⟩:=h2 rfl root.toNat k g2;have eq4:qu (s:Int) 4=((s/4:Nat):Int):=by grind [KH,qu]
   have em:Int.tmod (s:Int) 4=((s %4:Nat):Int):=rfl;rw[eq4,em,Mv (by omega)<|by omega];simp only[Aa,DP];have e:k.Kids[s/4]'(by omega)∈k.Kids:=A4 _;have c:=kk _ e;unfold Nj at c;rw[AA (by rw[hl];simp)]at c
   rcases c with c|⟨c1,c2,k',c3,c4⟩
   ·simp_all
   rw[cF,c3];simp only[Aa];obtain⟨g3,g4⟩:=C6 c3;obtain⟨k4',_⟩:=h2 rfl _ k' g4;rw[Mv (by omega)<|by omega];simp
theorem jM (a:Arena) (ha:Uw a) (root:Int):∃l,Gu a root=some l/\bY a root=some l/\l.length=16:=by
 unfold Gu bY;obtain⟨l,h1,h2,h3⟩:=KU (body:=λs:List Int×Int=>HV a root s.1 s.2) (body':=λs:List Int×Int=>OM a root s.1 s.2) (λ(o:List Int) i=>(o,i)) (λ(o:List Int) i=>(o,i)) 16 (λi o=>o.length=i) (λo=>o.length=16)
  (λo i hi ho=>by
   obtain⟨v,g1,g2⟩:=YM a ha root i hi
   grind [B5,ad1,HV,OM])
  (λo ho=>⟨o,by rfl,by rfl,ho⟩) (s:=[]) rfl
 grind
theorem Xn (s:Store) (id:Int) (hs:s.Vols.length<=1048576):∃v:Int,DC s id=some v/\RP s id=some v/\(v<0\/0<=v/\v<s.Vols.length):=by
 have e:RP s id=DC s id:=rfl;rw[e];unfold DC;obtain⟨r,h1,h2⟩:=AG (body:=λq:Int=>E8 s id q) (λ(_:Unit) i=>i) s.Vols.length (λ_ _=>True) (λr=>r= .inl ()\/∃v:Int,r= .inr v/\0<=v/\v<s.Vols.length)
  (λ_ i hi _=>by
   have hg:s.Vols[i]?=some s.Vols[i]:=Ab hi;simp only[E8,FN hi,Ar,hg,Aa]
   cases s.Vols[i].Id==id with
   |true=>grind
   |false=>
    rw[ad1]
    simp)
  (λ_ _=>⟨_,by simp[Fe,E8],.inl rfl⟩) (s:=()) trivial
 have h1':Ai (λq:Int=>E8 s id q) 0=some r:=h1;rw[h1']
 rcases h2 with rfl|⟨v,rfl,h2⟩
 ·simp
 grind
theorem aI (s:Store) (hv:s.Vols.length<=1048576) (ha:Uw s.Arena) (id:Int) (k:Nat) (hk:k<16):∃v,HU s id (k:Int)=some v/\Qx s id (k:Int)=some v:=by
 unfold HU Qx;obtain⟨v,h1,h2,h3⟩:=Xn s id hv;rw[h1,h2];simp only[Aa]
 rcases h3 with h3|⟨h3,h4⟩
 ·grind
 simp_all [Ag,Mv,YM]
def WK:Ak:=Ak.mk 0 0<|Page.mk 0 0 0 0 0<|bs []
def H9 (c:Int) (y:Ak):Bool:=y.Page.Kind==1&&y.Page.Tx==c
def Ia (r:List Ak) (o:Option Nat):Ak:=match o with
 |some j=>r[j]?.getD WK
 |none=>WK
def Mu (c:Int) (r:List Ak) (n:Nat) (o:Option Nat):Prop:=match o with
 |none=>∀(k:Nat) y,k<n->r[k]?=some y->H9 c y=false
 |some j=>j<n/\(∃y,r[j]?=some y/\H9 c y=true)/\∀(k:Nat) y,j<k->k<n->r[k]?=some y->H9 c y=false
theorem dO {c:Int} {r:List Ak} {o o':Option Nat} (h:Mu c r r.length o) (h':Mu c r r.length o'):o=o':=by
 cases o with
 |none=>
  cases o' with
  |none=>rfl
  |some j=>
   obtain⟨h1,⟨y,h2,h3⟩,_⟩:=h';rw[h j y h1 h2]at h3;cases h3
 |some j=>
  obtain⟨h1,⟨y,h2,h3⟩,h4⟩:=h
  cases o' with
  |none=>
   rw[h' j y h1 h2]at h3;cases h3
  |some i=>
   obtain⟨k1,⟨z,k2,k3⟩,k4⟩:=h'
   grind
theorem Vp (r:List Ak) (hr:r.length<=1048576) (c:Int):∃o,Iw r c=some (Ia r o,o.isSome)/\Mu c r r.length o:=by
 unfold Iw;rw[BH (by rw[Bu];omega) (by rw[Bu];omega),Bu];obtain⟨b,h1,h2⟩:=AG (body:=λs:Int=>Fj r c s) (λ(_:Unit) i=>(r.length:Int)-1-i) r.length (λi _=>∀(k:Nat) y,r.length-i<=k->k<r.length->r[k]?=some y->H9 c y=false) (λb=>(b= .inl ()/\Mu c r r.length none)\/∃j,b= .inr (Ia r<|some j,true)/\Mu c r r.length (some j))
  (λ_ i hi hs=>by
   have e1:((r.length:Int)-1-(i:Int))=((r.length-1-i:Nat):Int):=by omega
   have a:r.length-1-i<r.length:=by omega
   have hg:r[r.length-1-i]?=some r[r.length-1-i]:=Ab a;simp only[Fj,e1];rw[cT];simp only[Ar,hg,Aa]
   have next:H9 c r[r.length-1-i]=false->∃s':Unit,(some (.inl<|sb ((r.length-1-i:Nat):Int) 1):Option (Int⊕Unit⊕(Ak×Bool)))=some (.inl<|(r.length:Int)-1-((i+1:Nat):Int))/\∀(k:Nat) y,r.length-(i+1)<=k->k<r.length->r[k]?=some y->H9 c y=false:=λd=>by
    refine⟨(),by grind [BH],λk y h1 h2 h3=>?_⟩
    grind
   cases hk:r[r.length-1-i].Page.Kind==1 with
   |false=>
    exact .inl<|next (by grind [H9])
   |true=>
    simp only[Ah,Aa]
    cases ht:r[r.length-1-i].Page.Tx==c with
    |false=>
     exact .inl<|next (by unfold H9;grind)
    |true=>
     refine .inr ⟨_,rfl,.inr ⟨r.length-1-i,?_,a,⟨_,hg,by grind [H9]⟩,λk y h1 h2 h3=>hs k y (by omega) h2 h3⟩⟩
     grind [Ia])
  (λ_ hs=>⟨_,by grind [Fj],.inl ⟨rfl,λk y h1 h2=>hs k y (by omega) h1 h2⟩⟩) (s:=()) (λk y h1 h2=>by omega)
 have e0:((r.length:Int)-1-0)=(r.length:Int)-1:=by omega
 rw[e0]at h1;rw[h1]
 rcases h2 with⟨rfl,h2⟩|⟨j,rfl,h2⟩
 ·exact⟨none,rfl,h2⟩
 grind
theorem kF {r:List Ak} {x y:Ak} (h:srt BQ r) (a:j<i) (hx:r[j]?=some x) (hy:r[i]?=some y):x.Page.Seq<=y.Page.Seq:=by
 unfold srt at h;obtain⟨h1,h2⟩:=Ae.1 hx;obtain⟨h3,h4⟩:=Ae.1 hy;rw[<-h2,<-h4];exact Dp.1 h j i h1 h3 a
theorem dZ (f:Flash) (r:List Ak) (d:HZ f=some r) (hr:r.length<=1048576) (g:srt BQ r) (c:Int):∃o,Te f c=some (Ia r o,o.isSome)/\Mu c r r.length o:=by
 unfold Te;rw[d];simp only[Aa];obtain⟨b,h1,o,rfl,h2⟩:=AG (body:=λs:Bool×Int×Int×Int×Int×Int×Int×Int×Int×ByteArray=>II c r s.1 s.2.1 s.2.2.1 s.2.2.2.1 s.2.2.2.2.1 s.2.2.2.2.2.1 s.2.2.2.2.2.2.1 s.2.2.2.2.2.2.2.1 s.2.2.2.2.2.2.2.2.1 s.2.2.2.2.2.2.2.2.2)
  (λ(o:Option Nat) i=>(o.isSome,i,(Ia r o).Block,(Ia r o).Leaf,(Ia r o).Page.Kind,(Ia r o).Page.Seq,(Ia r o).Page.Tx,(Ia r o).Page.Part,(Ia r o).Page.Count,(Ia r o).Page.Text)) r.length (λi o=>Mu c r i o)
  (λb=>∃o,b=(o.isSome,(Ia r o).Block,(Ia r o).Leaf,(Ia r o).Page.Kind,(Ia r o).Page.Seq,(Ia r o).Page.Tx,(Ia r o).Page.Part,(Ia r o).Page.Count,(Ia r o).Page.Text)/\Mu c r r.length o)
  (λo i hi ho=>by
   have hg:r[i]?=some r[i]:=Ab hi;refine .inl ?_;simp only[II,FN hi,Ar,hg,Aa]
   have keep:H9 c r[i]=false->Mu c r (i+1) o:=λm=>by
    cases o with
    |none=>
     intro k y h1 h2;by_cases e:k=i
     ·grind
     exact ho k y (by omega) h2
    |some j=>
     obtain⟨h1,h2,h3⟩:=ho;refine⟨by omega,h2,λk y h4 h5 h6=>?_⟩
     grind
   cases hk:r[i].Page.Kind==1 with
   |false=>
    rw[ad1];exact⟨o,rfl,keep (by unfold H9;rw[hk];rfl)⟩
   |true=>
    cases ht:r[i].Page.Tx==c with
    |false=>
     rw[ad1];exact⟨o,rfl,keep (by unfold H9;grind)⟩
    |true=>
     have a:H9 c r[i]=true:=by unfold H9;rw[hk,ht];rfl
     have l:Mu c r (i+1) (some i):=⟨by omega,⟨_,hg,a⟩,λk y h1 h2=>by omega⟩;have n:Ia r (some i)=r[i]:=by simp only[Ia,hg,CL]
     cases o with
     |none=>
      rw[ad1]
      grind
     |some j=>
      obtain⟨h1,⟨y,h2,h3⟩,_⟩:=ho;have h:Ia r (some j)=y:=by simp only[Ia,h2,CL]
      have p:=kF g h1 h2 hg;simp only[Option.isSome_some,Ay,Ad,Aa,h];rw[Ac (by omega:r[i].Page.Seq>=y.Page.Seq)];rw[ad1]
      grind)
  (λo ho=>⟨_,by simp only[II,Fe],o,rfl,ho⟩) (s:=none) (λk y h1=>by omega)
 have h1':Ai (λs:Bool×Int×Int×Int×Int×Int×Int×Int×Int×ByteArray=>II c r s.1 s.2.1 s.2.2.1 s.2.2.2.1 s.2.2.2.2.1 s.2.2.2.2.2.1 s.2.2.2.2.2.2.1 s.2.2.2.2.2.2.2.1 s.2.2.2.2.2.2.2.2.1 s.2.2.2.2.2.2.2.2.2) (false,0,0,0,0,0,0,0,0,bs [])=_:=h1;rw[h1'];exact⟨o,rfl,h2⟩
theorem XV {y:Ak} (hT:∀b∈f.Blocks,∀x∈b.Leaves,(L x.Text).length<=1048576) (h:Nk f y):(L y.Page.Text).length<=90:=by
 obtain⟨b,x,h1,h2,_,h3⟩:=h;obtain⟨_,g1⟩:=C6 h1;obtain⟨_,g2⟩:=C6 h2;obtain⟨p,ok,k1,_,_,k2⟩:=GY x.Text (by grind);rw[h3]at k1
 injection k1 with k1
 injection k1 with k1 k3
 have hp:=k2 k3.symm;obtain⟨v,q1,_,q2⟩:=QG p
 grind [Bf]
structure eK (f:Flash) (r:List Ak):Prop where
 s:DN f=some r
 i:HZ f=some r
 len:r.length<=1048576
 page:∀y∈r,Nk f y
 text:∀y∈r,(L y.Page.Text).length<=90
 srt:srt BQ r
theorem mL (f:Flash) (hz:MA f<=1048576):∃r,eK f r:=by
 obtain⟨hf,hT⟩:=mE f hz;have hn:nl f.Blocks<=1048576:=Nw (qK f) hz;obtain⟨r,h1,h2,h3,h4,h5⟩:=TF f hf hT hn;exact⟨r,h1,h2,by omega,h4,λy hy=>XV hT<|h4 y hy,h5⟩
theorem Xj {r:List Ak} (h:eK f r) (c:Int):∃u ok,HN r c=some (u,ok)/\Nm f c=some (u,ok):=by
 obtain⟨o,h1,h2⟩:=Vp r h.len c;obtain⟨o',h3,h4⟩:=dZ f r h.i h.len h.srt c;obtain rfl:=dO h2 h4;unfold HN Nm;rw[h1,h3]
 cases o with
 |none=>simp
 |some j=>
  obtain⟨_,⟨y,k1,_⟩,_⟩:=h2;have a:Ia r (some j)=y:=by grind [Ia]
  obtain⟨u,ok,p1,p2,_⟩:=Ou y.Page.Text (by have:=h.text y<|Am k1;omega)
  grind
def asc (l:List Int):Prop:=l.Pairwise λx y=>x<y
theorem WX:∀{a b:List Int},asc a->asc b->(∀x,x∈a↔x∈b)->a=b
 |[],[],_,_,_=>rfl
 |[],y::b,_,_,h=>by grind [Ey]
 |x::a,[],_,_,h=>by grind [Ey]
 |x::a,y::b,ha,hb,h=>by
  obtain⟨a1,a2⟩:=BZ.1 ha;obtain⟨b1,b2⟩:=BZ.1 hb;have c:x=y:=by grind [Ey]
  subst c;congr 1
  refine WX a2 b2 λz=>⟨λhz=>?_,λhz=>?_⟩
  ·grind
  grind
def bW (l:List Int) (x:Int):List Int:=l.filter (λy=>decide<|y<x)++(if x>0 then [x]else [])++l.filter (λy=>decide<|y>x)
theorem NP {body:List Int×Int->Option ((List Int×Int)⊕(List Int))} (l:List Int) (p:Int->Bool) (o:List Int) (hM:l.length+o.length<=1073741824) (hb:∀(u:List Int) (i:Nat) x,l[i]?=some x->u.length<=o.length+i->body (u,(i:Int))=(bif p x then((ap 8 u [x]).bind λc=>some (.inl (c,ad (i:Int) 1)))else some (.inl (u,ad (i:Int) 1)))) (he:∀u,body (u,(l.length:Int))=some (.inr u)):Ai body (o,0)=some (o++l.filter p):=by
 obtain⟨b,h1,rfl⟩:=AG (body:=body) (λ(u:List Int) i=>(u,i)) l.length (λi u=>u=o++(l.take i).filter p) (λu=>u=o++l.filter p)
  (λu i hi hu=>by
   have hg:l[i]?=some l[i]:=Ab hi;have a:u.length<=o.length+i:=by grind
   refine .inl ?_;rw[hb u i _ hg a];have et:l.take (i+1)=l.take i++ [l[i]]:=by simp
   cases hp:p l[i]with
   |true=>grind [B5,ad1]
   |false=>
    rw[ad1]
    grind)
  (λu hu=>⟨u,he u,by grind⟩) (s:=o) (by simp)
 exact h1
theorem oP (l:List Int) (x:Int) (hl:l.length<=33554432):Kg l x=some (bW l x):=by
 unfold Kg
 rw[NP (body:=λs:List Int×Int=>Fs l x s.1 s.2) l (λy=>decide<|y<x) [] (by grind)
  (λu i y hy _=>by
   have hi:=(Ae.1 hy).1
   simp_all [Ar,FN,Fs])
  (λu=>by simp[Fe,Fs])]
 simp only[Aa,Ao]
 have step:∀o:List Int,o.length<=33554433->Ai (λs:List Int×Int=>En l x s.1 s.2) (o,0)=some (o++l.filter (λy=>decide<|y>x)):=λo ho=>
  NP (body:=λs:List Int×Int=>En l x s.1 s.2) l (λy=>decide<|y>x) o (by omega)
   (λu i y hy _=>by
    have hi:=(Ae.1 hy).1
    simp_all [Ar,FN,En])
   (λu=>by simp[Fe,En])
 grind [B5,bW]
theorem bU (hl:∀z∈l,0<z):y∈bW l x↔y∈l\/(y=x/\0<x):=by
 unfold bW
 grind
theorem bV (h:asc l):asc (bW l x):=by
 unfold bW asc;rw[AH,AH];refine⟨⟨List.Pairwise.filter _ h,?_,?_⟩,List.Pairwise.filter _ h,?_⟩
 ·split<;>simp
 ·grind
 grind
theorem Ta (l:List Int) (x:Int) (h:asc l):(bW l x).length<=l.length+1:=by
 have hd:(l.filter λy=>decide<|y<x).length+(l.filter λy=>decide<|y>x).length<=l.length:=by
  have e:∀l:List Int,(l.filter λy=>decide<|y<x).length+(l.filter λy=>decide<|y>x).length<=l.length:=by
   intro l
   induction l with
   |nil=>simp
   |cons z l ih=>grind
  exact e l
 unfold bW
 grind
noncomputable def W7 (s:Store) (n:Nat):List Int:=((s.Vols.take n).map λv=>(Gu s.Arena v.Root).getD []).flatten
theorem dI (s:Store) (n:Nat) (h:n<s.Vols.length):W7 s (n+1)=W7 s n++(Gu s.Arena s.Vols[n].Root).getD []:=by grind [Af,W7]
def ZA (s:Store) (n:Nat) (l:List Int):Prop:=asc l/\∀x,x∈l↔x∈W7 s n/\0<x
theorem XK (s:Store) (hv:s.Vols.length<=1048576) (ha:Uw s.Arena):∃l,IA s=some l/\ZA s s.Vols.length l/\l.length<=16777216:=by
 unfold IA;obtain⟨l,h1,h2,h3⟩:=AG (body:=λq:List Int×Int=>I9 s q.1 q.2) (λ(o:List Int) i=>(o,i)) s.Vols.length (λi o=>ZA s i o/\o.length<=16*i) (λo=>ZA s s.Vols.length o/\o.length<=16777216)
  (λo i hi ho=>by
   have hg:s.Vols[i]?=some s.Vols[i]:=Ab hi;obtain⟨⟨b,c⟩,e⟩:=ho;obtain⟨a,a1,_,a2⟩:=jM s.Arena ha s.Vols[i].Root;refine .inl ?_;simp only[I9,FN hi,Ar,hg,Aa,a1];obtain⟨u,q1,⟨q2,q3⟩,q4⟩:=AG (body:=λq:List Int×Int=>I8 a q.1 q.2) (λ(u:List Int) k=>(u,k)) a.length (λk u=>(asc u/\∀x,x∈u↔(x∈W7 s i++a.take k)/\0<x)/\u.length<=o.length+k) (λu=>(asc u/\∀x,x∈u↔(x∈W7 s i++a)/\0<x)/\u.length<=o.length+a.length)
    (λu k hk hu=>by
     have d:a[k]?=some a[k]:=Ab hk;obtain⟨⟨f,g⟩,h⟩:=hu;refine .inl ?_;simp only[I8,FN hk,Ar,d,Aa]
     grind [oP,ad1,bV,Ta,bU,Af])
    (λu hu=>⟨u,by simp[Fe,I8],by grind⟩) (s:=o) ⟨⟨b,λx=>by rw[c];simp⟩,by omega⟩
   rw[q1,Aa,ad1];refine⟨u,rfl,⟨q2,λx=>?_⟩,by omega⟩
   grind [dI])
  (λo ho=>⟨o,by simp[Fe,I9],ho.1,by omega⟩) (s:=[]) ⟨⟨List.Pairwise.nil,λx=>by simp[W7]⟩,by simp⟩
 grind
def uniq (l:List Int) (n:Nat):List Int:=((List.range n).filter λi=>i==0||l[i-1]?.getD 0 !=l[i]?.getD 0).map λi=>l[i]?.getD 0
theorem lT (x a b:Int):LY x a b=some (decide (a<=x/\x<=b)):=by
 unfold LY
 grind
theorem kJ (t:ByteArray):seq t (bs [])=decide (Fd t<=0):=by grind [Mr,D0,Bf,List.length_eq_zero_iff]
theorem Nu (b:Bool) (x y:α):(bif b then some x else some y)=some (bif b then x else y):=by cases b<;>rfl
theorem jL (q:Nx):RR q=Kn q:=by
 cases q with
 |mk kind vol sec of text=>
 unfold RR Kn;simp only[bX,lT,Aa,kJ];by_cases hk:1<=kind/\kind<=6
 ·rw[Ac hk];by_cases hv:1<=vol/\vol<=9
  ·rw[Ac hv];have:kind=1\/kind=2\/kind=3\/kind=4\/kind=5\/kind=6:=by omega
   rcases this with rfl|rfl|rfl|rfl|rfl|rfl<;>simp[Nu]<;>rw[Bool.eq_iff_iff]<;>simp only[Al,Hf,Br,decide_eq_false_iff_not,HA,bne_eq_false_iff_eq]<;>omega
  grind
 grind
end Go.TI
