/- A drawn flash, torn or not, comes up as it should. No condition; no program is in sight. -/
import Derived.Test.YtfbpdjnanpldbaaGreatMYD
set_option linter.unusedVariables false
set_option linter.unusedSimpArgs false
namespace Go.TI
open Go
def u32 (s:Int):Prop:=0<=s/\s<4294967296
theorem iP (s:Int) (hs:u32 s):∃v,Aj (λs:Int×Int=>Hf s.1 s.2) (s,0)=some v/\Aj (λs:Int×Int=>Hm s.1 s.2) (s,0)=some v/\u32 v:=
 Sf (body:=λs:Int×Int=>Hf s.1 s.2) (body':=λs:Int×Int=>Hm s.1 s.2) (λ(s:Int) i=>(s,i)) 8 (λ_ s=>u32 s) u32
  (λs i hi hs=>by grind [an1,zJ,ad1,vK,Hf,Hm,u32])
  (λs hs=>by grind [Hf,Hm]) (s:=s) hs
theorem iO (s:Int) (t:ByteArray) (hs:u32 s) (ht:(L t).length<=9223372036854775806):∃v,PQ s t=some v/\Qe s t=some v/\u32 v:=by
 obtain⟨v,h1,h2,h3⟩:=Sf (body:=λs:Int×Int=>IB t s.1 s.2) (body':=λs:Int×Int=>IR t s.1 s.2) (λ(s:Int) i=>(s,i)) (L t).length (λ_ s=>u32 s) u32
  (λs i hi hs=>by
   obtain⟨v,h1,h2,h3⟩:=iP (xr s<|IntKind.u32.wrap ((L t)[i]).toNat)<|vK _ _
   grind [DO,ad1,IB,IR])
  (λs hs=>by grind [Bq,IB,IR]) (s:=s) hs
 unfold PQ Qe
 grind
theorem eK (t:ByteArray) (ht:(L t).length<=9223372036854775806):∃v,Mh t=some v/\UH t=some v/\u32 v:=by
 obtain⟨v,h1,h2,h3⟩:=iO 4294967295 t ⟨by omega,by omega⟩ ht;unfold Mh UH
 grind
def four (v:Int):ByteArray:=Gp [IntKind.u8.wrap<|Int.fdiv v<|2^(min (24:Int).toNat IntKind.u32.bits),IntKind.u8.wrap<|Int.fdiv v<|2^(min (16:Int).toNat IntKind.u32.bits),IntKind.u8.wrap<|Int.fdiv v<|2^(min (8:Int).toNat IntKind.u32.bits),IntKind.u8.wrap v]
theorem Wr (v:Int):(L (four v)).length=4:=by rfl
theorem YI (t:ByteArray):P3 t=ID t:=by
 unfold P3 ID;by_cases h:(Gf t)>20000
 ·grind
 rw[Bq]at h;obtain⟨v,h1,h2,_⟩:=eK t (by omega);rw[h1,h2];rfl
theorem Qv (t:ByteArray):(20000<(L t).length->ID t=some (bs [],false))/\((L t).length<=20000->∃v,Mh t=some v/\ID t=some (t++four v,true)):=by grind [Bq,eK,FP,Wr,ID,Jn,four]
theorem eI (t:ByteArray) (ht:(L t).length<=9223372036854775806):∃u ok,Jo t=some (u,ok)/\Oc t=some (u,ok)/\(ok=true->(L u).length<=20000/\∃v,Mh u=some v/\t=u++four v)/\(ok=false->u=bs []):=by
 unfold Jo Oc;have e4:sb (Gf t) 4=((L t).length:Int)-4:=by rw[Bq,BV]
 rw[e4];by_cases h4:(L t).length<4
 ·simp_all [Bq];grind
 rw[Ah (by omega:¬((L t).length:Int)-4<0),Ah (by rw[Bq];omega:¬Gf t<4)];have en:((L t).length:Int)-4=(((L t).length-4:Nat):Int):=by omega
 rw[en,Bq];have b:sub t 0 (((L t).length-4:Nat):Int)=some (t.extract 0<|(L t).length-4):=E6 t (i:=0) (by omega) (by omega);have a:sub t (((L t).length-4:Nat):Int) ((L t).length:Int)=some (t.extract ((L t).length-4) (L t).length):=E6 t (by omega) (by omega);rw[b,a];simp only[Aa];have hu:(L<|t.extract 0<|(L t).length-4).length=(L t).length-4:=by rw[Iv];simp
 obtain⟨k1,k2⟩:=Qv<|t.extract 0<|(L t).length-4;rw[YI];by_cases hb:20000<(L t).length-4
 ·grind
 obtain⟨v,h1,h2⟩:=k2 (by omega);rw[Ah (by omega:¬(((L t).length-4:Nat):Int)>20000),h1,h2];have h3:Jn v=some (four v):=rfl;simp only[Ad,Aa,h3,Av];have c:seq (t.extract ((L t).length-4) (L t).length) (four v)=seq (t.extract 0 ((L t).length-4)++four v) t:=by
  rw[OT,OT,FC,Iv,Iv,Bool.eq_iff_iff,Bz,Bz];have e1:List.take ((L t).length-((L t).length-4)) (List.drop ((L t).length-4)<|L t)=(L t).drop ((L t).length-4):=AS (by simp);have e2:List.take ((L t).length-4-0) (List.drop 0<|L t)=(L t).take ((L t).length-4):=by simp
  rw[e1,e2];constructor
  ·grind [Ci]
  grind
 grind [Lr]
theorem Hi (n:Nat) (h:n<=1099511627776):∃s,FR (n:Int)=some s/\L s=BM n:=by
 unfold FR;obtain⟨m,o,h1,h2,h3,h4⟩:=Y6 (body:=λs:Int×List Int=>Mg s.1 s.2) (λ_ _=>rfl) n [] (by simpa using h);rw[h1,Aa];have:IntKind.u8.wrap (m:Int)=m:=by rw[IntKind.wrap_u8];omega
 rw[this,BL (by grind),Aa]
 grind [LQ]
def vS (t:ByteArray) (at_:Int) (r:Int×Int×Bool):Prop:=(r.2.2=false/\r.1=0/\r.2.1=0)\/(r.2.2=true/\∃(a b n:Nat),at_=a/\r.2.1=b/\r.1=n/\a<b/\b<=(L t).length/\n<=1000000000/\BM n=((L t).drop a).take (b-a))
theorem Vg (l:List UInt8) (a k:Nat) (h:a+k<l.length):(l.drop a).take (k+1)=(l.drop a).take k++ [l[a+k]]:=by grind [Ag]
theorem Z4 (k:Nat) (h:k<5):(128:Nat)^k<=268435456:=by
 have:k<=4:=by omega
 calc 128^k<=128^4:=Nat.pow_le_pow_right (by omega) this
  _=268435456:=by decide
theorem Uu:∀ds:List UInt8,E5 ds<128^ds.length
 |[]=>by simp[E5]
 |d::ds=>by
  have:=Uu ds
  grind [E5]
theorem tB (x k:Nat) (hx:x<128) (hk:k<5):shl .i64 (x:Int) (ml 7 (k:Int))=some ((x*128^k:Nat):Int):=by
 have h7:ml 7 (k:Int)=((7*k:Nat):Int):=by grind [MU]
 unfold shl;rw[h7,BE<|by omega];have e:(2:Int)^(min ((7*k:Nat):Int).toNat IntKind.i64.bits)=((128^k:Nat):Int):=by
  have hb:IntKind.i64.bits=64:=rfl;have h128:(128:Nat)^k=2^(7*k):=by rw[Nat.pow_mul]
  grind
 rw[e];have hp:=Z4 k hk;have hm:x*128^k<=128*268435456:=X1 (by omega) hp
 grind [M8]
theorem jB (x:Nat):Int.tmod (x:Int) 128=((x %128:Nat):Int):=rfl
theorem GY (t:ByteArray) (at_:Int) (ht:(L t).length<=4611686018427387904) (v:oI at_):∃r,If t at_=some r/\Ip t at_=some r/\vS t at_ r:=by
 have fails:∀(at_:Int),(at_<0\/((L t).length:Int)<=at_)->oI at_->Ip t at_=some (0,0,false):=by grind [Az,Bq,BV,Ip,FN]
 by_cases w:0<=at_/\at_<(L t).length
 ·obtain⟨a,rfl⟩:=BN w.1;have y:∀(B1:Int×Int×Int->Option ((Int×Int×Int)⊕Unit⊕(Int×Int×Bool))) (B2:Int×Int->Option ((Int×Int)⊕Unit⊕(Int×Int×Bool))),(∀n sc i,B1 (n,sc,i)=CS t (a:Int) n sc i)->(∀n k,B2 (n,k)=FN t (a:Int) n k)->∀(m k:Nat),k+m=5->a+k<=(L t).length->(∀d∈((L t).drop a).take k,128<=d.toNat)->
    ∃r,(Aj B1 (((E5 (((L t).drop a).take k):Nat):Int),((128^k:Nat):Int),((a+k:Nat):Int))=some r/\Aj B2 (((E5 (((L t).drop a).take k):Nat):Int),(k:Int))=some r)/\(r= .inl ()\/∃q,r= .inr q/\vS t (a:Int) q):=by
   intro B1 B2 z h0 m
   induction m with
   |zero=>grind [Az,Ca,CS,FN]
   |succ m ih=>
    intro k hk h9 hd;rw[Az,Az B2];simp only[z,h0,CS,FN];have j:k<5:=by omega
    rw[Ca (b:=5) (by omega) (by omega),Ac (by omega:((a+k:Nat):Int)<(a:Int)+5),Ac (by omega:(k:Int)<5),Ac (by omega:(a:Int)>=0),Bq,BV];by_cases l:a+k<(L t).length
    ·rw[Ac (by omega:((a+k:Nat):Int)<((L t).length:Int)),Ac (by omega:(a:Int)<((L t).length:Int)-k)];have eak:ad (a:Int) (k:Int)=((a+k:Nat):Int):=by rw[Ca];omega
     simp only[Ak,Aa,DO t l,eak];have hx:=aZ<|(L t)[a+k];have f:=Vg (L t) a k l;have o:(((L t).drop a).take k).length=k:=by simp;omega
     have g:=Ma (((L t).drop a).take k) [(L t)[a+k]];rw[<-f,o]at g;have h4:=Uu<|((L t).drop a).take k;rw[o]at h4;have hp:=Z4 k j;generalize a0:(L t)[a+k]=x at hx f g;simp only[E5,Nat.mul_zero,iT]at g;have hw:IntKind.i64.wrap (x.toNat:Int)=x.toNat:=M8 (by omega) (by omega);have h7:x.toNat %128*128^k<=127*268435456:=X1 (by omega) hp;have emul:ml ((x.toNat %128:Nat):Int) ((128^k:Nat):Int)=((x.toNat %128*128^k:Nat):Int):=by grind [MU]
     have enew:ad (((E5 (((L t).drop a).take k):Nat)):Int) ((x.toNat %128*128^k:Nat):Int)=((E5 (((L t).drop a).take<|k+1):Nat):Int):=by grind [Ca]
     rw[hw,jB,tB _ k (by omega) j];simp only[Aa,emul,enew];by_cases h:x.toNat<128
     ·rw[Ac (by omega:(x.toNat:Int)<128),Ah (by omega:¬(x.toNat:Int)>=128)];have ek1:ad ((a+k:Nat):Int) 1=((a+k+1:Nat):Int):=ad1 (by omega);have c:=Y5 (((L t).drop a).take k) x hd h;rw[<-f]at c;have h5:(((L t).drop a).take k≠ [])↔0<k:=by grind
      rw[h5]at c;have p:sub t (a:Int) ((a+k+1:Nat):Int)=some (t.extract a<|a+k+1):=E6 t (by omega) (by omega);rw[ek1,p];by_cases h8:E5 (((L t).drop a).take<|k+1)>1000000000
      ·rw[Ac (by omega:((E5 (((L t).drop a).take<|k+1):Nat):Int)>1000000000)];refine⟨.inr (0,0,false),⟨rfl,?_⟩,.inr ⟨_,rfl,.inl ⟨rfl,rfl,rfl⟩⟩⟩
       grind
      rw[Ah (by omega:¬((E5 (((L t).drop a).take<|k+1):Nat):Int)>1000000000)];obtain⟨s,h6,a1⟩:=Hi (E5<|((L t).drop a).take<|k+1) (by omega);simp only[Ad,Aa,h6];have u:seq s (t.extract a<|a+k+1)=decide (¬(x.toNat=0/\0<k)):=by grind [OT,Iv]
      rw[u];by_cases hz:x.toNat=0/\0<k
      ·rw[Ah λe=>e hz];refine⟨.inr (0,0,false),⟨rfl,?_⟩,.inr ⟨_,rfl,.inl ⟨rfl,rfl,rfl⟩⟩⟩
       grind
      rw[Ac hz];refine⟨.inr (((E5 (((L t).drop a).take<|k+1):Nat):Int),((a+k+1:Nat):Int),true),⟨rfl,?_⟩,.inr ⟨_,rfl,.inr ⟨rfl,a,a+k+1,_,rfl,rfl,rfl,by omega,by omega,by omega,?_⟩⟩⟩
      ·grind
      grind
     rw[Ah (by omega:¬(x.toNat:Int)<128),Ac (by omega:(x.toNat:Int)>=128)];have e1:ml ((128^k:Nat):Int) 128=((128^(k+1):Nat):Int):=by grind [MU]
     have e2:ad ((a+k:Nat):Int) 1=((a+(k+1):Nat):Int):=ad1 (by omega);have e3:ad (k:Int) 1=((k+1:Nat):Int):=ad1 (by omega);rw[e1,e2,e3];exact ih (k+1) (by omega) (by omega)<|by grind
    grind
  obtain⟨r,⟨h1,h2⟩,h3⟩:=y (λs=>CS t (a:Int) s.1 s.2.1 s.2.2) (λs=>FN t (a:Int) s.1 s.2) (λ_ _ _=>rfl) (λ_ _=>rfl) 5 0 rfl (by omega) (by simp);unfold If Ip;have hw:Bw (a:Int) 0 (Gf t)=some true:=by grind [Bq,Bw]
  rw[hw];simp only[List.take_zero,E5,Nat.pow_zero,iT]at h1 h2;rw[show((0:Nat):Int)=0 from rfl,show((1:Nat):Int)=1 from rfl]at h1;rw[show((0:Nat):Int)=0 from rfl]at h2;rw[h1,h2]
  rcases h3 with rfl|⟨q,rfl,h3⟩
  ·exact⟨_,rfl,rfl,.inl ⟨rfl,rfl,rfl⟩⟩
  grind
 have hf:=fails at_ (by omega) v;refine⟨(0,0,false),?_,hf,.inl ⟨rfl,rfl,rfl⟩⟩;unfold If
 grind [Bq,Az,Bw,CS]
theorem dR:HF=Bw:=rfl
variable {r n x y:Int} {R l:List Int} {i j k:Nat} {s:Store} {α γ:Type} {v:Vol} {p:Nat->Bool} {f:Flash}
theorem Cu {l:List α} {i:Int} {x:α} (h:gi l i=some x):0<=i/\l[i.toNat]?=some x:=by grind [gi]
theorem Wx:Qi=Fi:=by
 have h2:KX=FI:=by
  funext x y;unfold KX FI
  cases decide (y<ln x.Leaves)with
  |false=>rfl
  |true=>
   cases gi x.Leaves y with
   |none=>rfl
   |some z=>rfl
 funext f;unfold Qi Fi;have:KY f=FJ f:=by
  funext i;unfold KY FJ;rw[h2];rfl
 rw[this];rfl
def Xt (f:Flash):Prop:=f.Blocks.length<=1048576/\∀b∈f.Blocks,b.Leaves.length<=1048576
theorem Wc (x a b:Int):Bw x a b=some (decide (a<=x)&&decide (x<=b)):=by
 unfold Bw
 grind
theorem Qw (p:Page):∃v,IH p=some v/\P5 p=some v/\(v=true->(p.Kind=1\/p.Kind=2)/\(1<=p.Seq/\p.Seq<=1000000000)/\(1<=p.Tx/\p.Tx<=1000000000)/\(1<=p.Count/\p.Count<=9)/\(0<=p.Part/\p.Part<p.Count)/\Gf p.Text<=90):=by
 unfold IH P5;rw[dR];simp only[Wc,Aa];by_cases h1:1<=p.Seq/\p.Seq<=1000000000
 ·by_cases h2:1<=p.Tx/\p.Tx<=1000000000
  ·by_cases h3:1<=p.Count/\p.Count<=9
   ·have e:sb p.Count 1=p.Count-1:=BV (by omega) (by omega);rw[e];by_cases h4:0<=p.Part/\p.Part<=p.Count-1
    ·by_cases h5:Gf p.Text>90
     ·simp_all
     by_cases k2:p.Kind=2
     ·exact⟨true,by grind,by grind,λ_=>⟨.inr k2,h1,h2,h3,⟨h4.1,by omega⟩,by omega⟩⟩
     by_cases k1:p.Kind=1
     ·exact⟨p.Count==1,by grind,by grind,λ_=>⟨.inl k1,h1,h2,h3,⟨h4.1,by omega⟩,by omega⟩⟩
     have hk:(decide (1<=p.Kind)&&decide (p.Kind<=2))=false:=by grind
     exact⟨false,by simp[hk],by grind,by simp⟩
    refine⟨false,?_,?_,by simp⟩
    ·grind
    grind
   have e3:(decide (1<=p.Count)&&decide (p.Count<=9))=false:=by grind
   refine⟨false,?_,?_,by simp⟩
   ·grind
   grind
  have e2:(decide (1<=p.Tx)&&decide (p.Tx<=1000000000))=false:=by grind
  refine⟨false,?_,?_,by simp⟩
  ·grind
  simp[h1,e2]
 have e1:(decide (1<=p.Seq)&&decide (p.Seq<=1000000000))=false:=by grind
 refine⟨false,?_,?_,by simp⟩
 ·grind
 simp[e1]
def Yi:Page:=Page.mk 0 0 0 0 0<|bs []
theorem GI (u:ByteArray) (a:Int) (hu:(L u).length<=20000) (ha:oI a):CA (DK.mk u a true)=some (0,DK.mk u a true):=by grind [GY,CA]
theorem Im {r:Int×Int×Bool} (u:ByteArray) (a:Int) (hu:(L u).length<=20000) (h:If u a=some r):CA (DK.mk u a false)=some (cond r.2.2 (r.1,DK.mk u r.2.1 false) (0,DK.mk u a true)):=by
 unfold CA
 grind
theorem iA {a b:Nat} (l:List UInt8) (h:a<=b):l.drop a=(l.drop a).take (b-a)++l.drop b:=by
 have:=(Ci (b-a)<|l.drop a).symm;rw[DE,show a+(b-a)=b by omega]at this;exact this
theorem Uc (p:Page) (u:ByteArray) (k:UInt8) (n1 n2 n3 n4:Nat) (hp:IH p=some true) (hk:p.Kind=(k.toNat:Int)) (h1:p.Seq=n1) (h2:p.Tx=n2) (h3:p.Part=n3) (h4:p.Count=n4) (b1:n1<=1000000000) (b2:n2<=1000000000) (b3:n3<=1000000000) (b4:n4<=1000000000) (hu:(L u).length<=20000) (e:L u=[k]++BM n1++BM n2++BM n3++BM n4++L p.Text):Dh p=ID u:=by
 obtain⟨s1,q1,r1⟩:=Hi n1 (by omega);obtain⟨s2,q2,r2⟩:=Hi n2 (by omega);obtain⟨s3,q3,r3⟩:=Hi n3 (by omega);obtain⟨s4,q4,r4⟩:=Hi n4 (by omega);have hl:=Cn List.length e;have hb:Jm p.Kind=some (Gp [IntKind.u8.wrap p.Kind]):=rfl;have a:L (Gp [IntKind.u8.wrap p.Kind])=[k]:=by grind [LQ,IntKind.wrap_u8,aZ,UInt8.ofNat_toNat]
 unfold Dh;rw[hp];simp only[Aa,Av,Ad,hb,h1,h2,h3,h4,q1,q2,q3,q4];rw[FP _ _ (by grind),Aa,FP _ _ (by grind [FC]),Aa,FP _ _ (by grind [FC]),Aa,FP _ _ (by grind [FC]),Aa,FP _ _ (by grind [FC]),Aa];have:Gp [IntKind.u8.wrap p.Kind]++s1++s2++s3++s4++p.Text=u:=by grind [IX,FC]
 rw[this]
 cases ID u with
 |none=>rfl
 |some v=>rfl
theorem It (t:ByteArray) (ht:(L t).length<=9223372036854775806):∃p ok,Ec t=some (p,ok)/\Oh t=some (p,ok)/\(ok=false->p=Yi)/\(ok=true->IH p=some true):=by
 obtain⟨u,uok,j,k,m,n⟩:=eI t ht;unfold Ec Oh;rw[j,k];simp only[Aa];have o1:oI 1:=⟨by omega,by omega⟩
 cases uok with
 |false=>
  have:=n rfl;subst this;have hz:(L<|bs []).length<=20000:=by rw[DL];simp
  exact⟨Yi,false,rfl,rfl,λ_=>rfl,by simp⟩
 |true=>
  obtain⟨e,v,hv,q⟩:=m rfl;simp only[Av,Ad,Aa];by_cases he:(L u).length<1
  ·have g:seq u (bs [])=true:=by grind [OT,DL]
   simp_all [Bq,GI,Yi]
  have g:seq u (bs [])=false:=by grind [OT,DL]
  rw[Ah (by rw[Bq];omega:¬Gf u<1),g];simp only[Ad];have four_:∀(B:Int×Int×Int×Int×Int×Int->Option ((Int×Int×Int×Int×Int×Int)⊕(Int×Int×Int×Int×Int)⊕(Page×Bool))),(∀x y a b c d,B (x,y,a,b,c,d)=D8 (u,true) x y a b c d)->
    ∃(a:Int) (m1 m2 m3 m4:Int) (bad:Bool),(∃c1 c2 c3,CA (DK.mk u 1 false)=some (m1,c1)/\CA c1=some (m2,c2)/\CA c2=some (m3,c3)/\CA c3=some (m4,DK.mk u a bad))/\
     Aj B (1,0,0,0,0,0)=some (bif bad then .inr (Yi,false)else .inl (a,m1,m2,m3,m4))/\(bad=false->∃(a1 a2 a3 a4 n1 n2 n3 n4:Nat),m1=n1/\m2=n2/\m3=n3/\m4=n4/\a=a4/\1<a1/\a1<a2/\a2<a3/\a3<a4/\a4<=(L u).length/\n1<=1000000000/\n2<=1000000000/\n3<=1000000000/\n4<=1000000000/\
      BM n1=((L u).drop 1).take (a1-1)/\BM n2=((L u).drop a1).take (a2-a1)/\BM n3=((L u).drop a2).take (a3-a2)/\BM n4=((L u).drop a3).take (a4-a3)):=by
   intro B hB;obtain⟨r1,p1,q1,w1⟩:=GY u 1 (by omega) o1;have g1:=Im u 1 e p1;rw[Az,hB];unfold D8;rw[cT,q1,Aa]
   rcases w1 with⟨w1,w2,w3⟩|⟨w1,a0',a1,n1,z0,z1,z2,z3,z4,z5,z6⟩
   ·rw[w1]at g1⊢;exact⟨1,0,0,0,0,true,⟨_,_,_,g1,GI u 1 e o1,GI u 1 e o1,GI u 1 e o1⟩,rfl,by simp⟩
   have ea0:a0'=1:=by omega
   subst ea0;rw[w1]at g1⊢;have x1:oI r1.2.1:=⟨by omega,by omega⟩;simp only[Av,Ad,Ak]at g1⊢;rw[show((0:Int)==0)=true from rfl,Ak,show ad 0 1=1 from ad1 (i:=0)<|by omega];simp only;obtain⟨r2,p2,q2,y1⟩:=GY u r1.2.1 (by omega) x1;have g2:=Im u r1.2.1 e p2;rw[Az,hB];unfold D8;rw[cT,q2,Aa]
   rcases y1 with⟨y1,_,_⟩|⟨y1,b0,a2,n2,y2,y3,y4,y5,y6,y7,y8⟩
   ·rw[y1]at g2⊢;exact⟨r1.2.1,r1.1,0,0,0,true,⟨_,_,_,g1,g2,GI u _ e x1,GI u _ e x1⟩,rfl,by simp⟩
   have eb:b0=a1:=by omega
   subst eb;rw[y1]at g2⊢;have x2:oI r2.2.1:=⟨by omega,by omega⟩;simp only[Av,Ad,Ak]at g2⊢;rw[show((1:Int)==0)=false from rfl,Ad,show((1:Int)==1)=true from rfl,Ak,show ad 1 1=2 from ad1 (i:=1)<|by omega];simp only;obtain⟨r3,p3,q3,k1⟩:=GY u r2.2.1 (by omega) x2;have g3:=Im u r2.2.1 e p3;rw[Az,hB];unfold D8;rw[cT,q3,Aa]
   rcases k1 with⟨k1,_,_⟩|⟨k1,c0,a3,n3,k2,k3,k4,k5,k6,k7,k8⟩
   ·rw[k1]at g3⊢;exact⟨r2.2.1,r1.1,r2.1,0,0,true,⟨_,_,_,g1,g2,g3,GI u _ e x2⟩,rfl,by simp⟩
   have ec:c0=a2:=by omega
   subst ec;rw[k1]at g3⊢;have x3:oI r3.2.1:=⟨by omega,by omega⟩;simp only[Av,Ad,Ak]at g3⊢;rw[show((2:Int)==0)=false from rfl,Ad,show((2:Int)==1)=false from rfl,Ad,show((2:Int)==2)=true from rfl,Ak,show ad 2 1=3 from ad1 (i:=2)<|by omega];simp only;obtain⟨r4,p4,q4,l1⟩:=GY u r3.2.1 (by omega) x3;have g4:=Im u r3.2.1 e p4;rw[Az,hB];unfold D8;rw[cT,q4,Aa]
   rcases l1 with⟨l1,_,_⟩|⟨l1,d0,a4,n4,l2,l3,l4,l5,l6,l7,l8⟩
   ·rw[l1]at g4⊢;exact⟨r3.2.1,r1.1,r2.1,r3.1,0,true,⟨_,_,_,g1,g2,g3,g4⟩,rfl,by simp⟩
   have ed:d0=a3:=by omega
   subst ed;rw[l1]at g4⊢;simp only[Av,Ad,Ak]at g4⊢;rw[show((3:Int)==0)=false from rfl,Ad,show((3:Int)==1)=false from rfl,Ad,show((3:Int)==2)=false from rfl,Ad,show((3:Int)==3)=true from rfl,Ak,show ad 3 1=4 from ad1 (i:=3)<|by omega];simp only;rw[Az,hB];unfold D8;rw[cF];exact⟨r4.2.1,r1.1,r2.1,r3.1,r4.1,false,⟨_,_,_,g1,g2,g3,g4⟩,rfl,λ_=>⟨b0,c0,d0,a4,n1,n2,n3,n4,z2,y4,k4,l4,l3,z3,y5,k5,l5,l6,z5,y7,k7,l7,z6,y8,k8,l8⟩⟩
  obtain⟨a,m1,m2,m3,m4,bad,⟨c1,c2,c3,f1,f2,f3,f4⟩,f5,f6⟩:=four_ (λs:Int×Int×Int×Int×Int×Int=>D8 (u,true) s.1 s.2.1 s.2.2.1 s.2.2.2.1 s.2.2.2.2.1 s.2.2.2.2.2) λ_ _ _ _ _ _=>rfl;rw[f5];simp only[f1,f2,f3,f4,Aa]
  cases bad with
  |true=>grind [Yi]
  |false=>
   obtain⟨a1,a2,a3,a4,n1,n2,n3,n4,rfl,rfl,rfl,rfl,rfl,i1,i2,i3,i4,i5,j1,j2,j3,j4,s1,s2,s3,s4⟩:=f6 rfl;simp only[Ad,Aa,Ei];have o:sx u 0=some (((L u)[0]'(by omega)).toNat:Int):=DO u (i:=0) (by omega);have h:sub u (a4:Int) (Gf u)=some (u.extract a4 (L u).length):=by grind [Bq,E6]
   rw[o,h];simp only[Aa];have hk:=aZ ((L u)[0]'(by omega));have hw:IntKind.i64.wrap (((L u)[0]'(by omega)).toNat:Int)=((L u)[0]'(by omega)).toNat:=M8 (by omega) (by omega);rw[hw];obtain⟨po,po1,po2,_⟩:=Qw (Page.mk (((L u)[0]'(by omega)).toNat:Int) n1 n2 n3 n4<|u.extract a4 (L u).length);rw[po2]
   cases po with
   |false=>
    have:Dh (Page.mk (((L u)[0]'(by omega)).toNat:Int) n1 n2 n3 n4<|u.extract a4 (L u).length)=some (bs [],false):=by grind [Dh]
    rw[this];simp[Yi]
   |true=>
    have hT:L (u.extract a4 (L u).length)=(L u).drop a4:=by grind [Iv,AS]
    have f:L u=[(L u)[0]'(by omega)]++BM n1++BM n2++BM n3++BM n4++L (u.extract a4 (L u).length):=by
     rw[hT,s1,s2,s3,s4];have h0:L u=[(L u)[0]'(by omega)]++(L u).drop 1:=by
      have:=AJ (l:=L u) (i:=0) (by omega);simpa using this
     grind [iA]
    rw[Uc _ u ((L u)[0]'(by omega)) n1 n2 n3 n4 po1 rfl rfl rfl rfl rfl j1 j2 j3 j4 e f];obtain⟨v',hv',hs'⟩:=(Qv u).2 e;rw[hv]at hv'
    injection hv' with hv'
    subst hv';rw[hs',Aa];have:seq (u++four v) t=true:=by grind [Lr]
    simp only[Av,Ad,Aa,this]
    grind
def nl (l:List Block):Nat:=(l.map λb=>b.Leaves.length).sum
def Pu (f:Flash) (y:An):Prop:=∃b x,gi f.Blocks y.Block=some b/\gi b.Leaves y.Leaf=some x/\(x.Is==1)=true/\Ec x.Text=some (y.Page,true)
theorem TZ {b:Block} {x:Leaf} (f:Flash) (hf:Xt f) (hb:f.Blocks[i]?=some b) (hx:b.Leaves[k]?=some x):N4 f i k=some (cond (x.Is==1) (x.Text,true) (bs [],false)):=by
 have h1:=(Af.1 hb).1;have h2:=(Af.1 hx).1;have h3:=hf.1;have h4:=hf.2 b<|Ao hb;unfold N4;rw[BV (by rw[Bu];omega) (by rw[Bu];omega),Wc,Bu,Ac (by omega:(0:Int)<=(i:Int)),Ac (by omega:(i:Int)<=(f.Blocks.length:Int)-1)];simp only[Aa,Bool.and_self,Av,Ad,Ar,hb];rw[BV (by rw[Bu];omega) (by rw[Bu];omega),Wc,Bu,Ac (by omega:(0:Int)<=(k:Int)),Ac (by omega:(k:Int)<=(b.Leaves.length:Int)-1)]
 grind
theorem W2 (f:Flash) (hf:Xt f) (hT:∀b∈f.Blocks,∀x∈b.Leaves,(L x.Text).length<=1048576) (hn:nl f.Blocks<=1048576):
  ∃X,Aj (λs:List An×Int=>D1 f s.1 s.2) ([],0)=some X/\Aj (λs:Int×List An=>Hn f s.1 s.2) (0,[])=some X/\X.length<=nl f.Blocks/\∀y∈X,Pu f y:=by
 refine Sc (body:=λs:List An×Int=>D1 f s.1 s.2) (body':=λs:Int×List An=>Hn f s.1 s.2) (λs i=>(s,i)) (λs i=>(i,s)) f.Blocks.length (λi a=>a.length<=((f.Blocks.take i).map λb=>b.Leaves.length).sum/\∀y∈a,Pu f y) (λX=>X.length<=nl f.Blocks/\∀y∈X,Pu f y) ?_ ?_ (s:=[]) ⟨by simp,by simp⟩
 ·intro a i hi ⟨c,d⟩;have hb:f.Blocks[i]?=some f.Blocks[i]:=Ab hi;have hm:f.Blocks[i]∈f.Blocks:=Ay _;have h:=OL (λb:Block=>b.Leaves.length) f.Blocks i hi;have j:=Mb (λb:Block=>b.Leaves.length) f.Blocks<|i+1;unfold nl at hn;have l:=hf.1;refine .inl ?_;simp only[D1,Hn,EM hi,Ar,hb,Aa];obtain⟨u,q1,q2,q3⟩:=Sc (body:=λs:List An×Int=>EE f (i:Int) s.1 s.2) (body':=λs:Int×List An=>IV (i:Int) f.Blocks[i] s.1 s.2) (λs i=>(s,i)) (λs i=>(i,s)) f.Blocks[i].Leaves.length (λk u=>u.length<=a.length+k/\∀y∈u,Pu f y) (λu=>u.length<=a.length+f.Blocks[i].Leaves.length/\∀y∈u,Pu f y)
   (λu k hk hu=>by
    have hx:f.Blocks[i].Leaves[k]?=some f.Blocks[i].Leaves[k]:=Ab hk
    have g:∀y:An,ap 72 u [y]=some (u++ [y]):=λy=>BL<|by grind
    refine .inl ?_;obtain⟨p,ok,r1,r2,r3,r4⟩:=It f.Blocks[i].Leaves[k].Text (by grind);simp only[EE,IV,EM hk,Ar,hb,hx,Aa,TZ f hf hb hx,r2,g]
    cases e:f.Blocks[i].Leaves[k].Is==1 with
    |false=>grind [It,DL,ad1]
    |true=>
     simp only[Ak,Aa,r1]
     cases ok with
     |false=>grind [ad1]
     |true=>
      refine⟨u++ [An.mk i k p],by grind [ad1],by grind [ad1],by grind,λy hy=>?_⟩
      rcases A7.1 hy with hy|hy
      ·exact hu.2 y hy
      rw[Cb]at hy;subst hy
      exact⟨_,_,by simp only[Ar];exact hb,by grind [Ar],e,r1⟩)
   (λu hu=>⟨u,by simp_all [Ar,En,EE],by simp[En,IV],hu⟩) (s:=a) ⟨by omega,d⟩
  grind [ad1]
 intro a ⟨c,d⟩;refine⟨a,by simp[En,D1],by simp[En,Hn],?_,d⟩;rw[Hq]at c;exact c
theorem ZU {l:List γ} {i j:Int} {x y:γ} (h:gi l j=some y):∃z,gi (si l i x) j=some z:=by grind [gi,si]
theorem fH (l:List An) (k:Int):IE l k=(AX (LS Bm) 0 k l).map (Sum.map (λs=>(s.2,s.1)) id):=by
 unfold IE AX nO fG
 cases hk:decide (k>0)with
 |false=>rfl
 |true=>
  cases h1:gi l (sb k 1)with
  |none=>simp
  |some x=>
   cases h2:gi l k with
   |none=>simp
   |some y=>
    simp only[Aa];have e:(decide<|x.Page.Seq>y.Page.Seq)=LS Bm y x:=rfl;rw[e]
    cases LS Bm y x with
    |false=>rfl
    |true=>
     obtain⟨z,hz⟩:=ZU (i:=k) (x:=x) h1
     grind
theorem sW {l l':List γ} {i j:Int} (h:fG l i j=some l'):l'.length=l.length:=by grind [Ae,fG,si]
theorem uM {a j:Int} {l r:List An} (h:Aj (λs:Int×List An=>AX (LS Bm) a s.1 s.2) (j,l)=some r):r.length=l.length:=by
 refine mL (λs:Int×List An=>s.2.length=l.length) (λr=>r.length=l.length) ?_ ?_ (s:=(j,l)) rfl h
 ·rintro⟨j,m⟩ s' hm hb;obtain⟨c,_,hb⟩:=Ae.1 hb
  grind [Ae,sW]
 rintro⟨j,m⟩ b hm hb;obtain⟨c,_,hb⟩:=Ae.1 hb
 grind [Ae]
theorem iR (f:Flash) (hf:Xt f) (hT:∀b∈f.Blocks,∀x∈b.Leaves,(L x.Text).length<=1048576) (hn:nl f.Blocks<=1048576):
  ∃r,Fd f=some r/\Io f=some r/\r.length<=nl f.Blocks/\(∀y∈r,Pu f y)/\QA Bm r:=by
 obtain⟨X,h1,h2,h3,h4⟩:=W2 f hf hT hn;obtain⟨r,h5,h6,h7⟩:=XK Bm X (by omega);obtain⟨r',h8,h9,h10⟩:=Hj Bm [] X [] (by grind);have hr:r'=r:=Nu Bm h9 h6 (λk=>by rw[h7 k,<-h10 k]);subst hr;refine⟨r',?_,?_,?_,?_,h6⟩
 ·unfold Fd;rw[h1,Aa];simp only[A0,AW,KI,Jz]at h8;unfold Bv at h8;have hc:Aj (λs:List An×Int=>IF s.1 s.2) (X,1)=Aj (λs:Int×List An=>AQ (LS Bm) ((0:Nat):Int) (X.length:Int) s.1 s.2) (1,X):=by
   refine cY (body:=λs:Int×List An=>AQ (LS Bm) ((0:Nat):Int) (X.length:Int) s.1 s.2) (body':=λs:List An×Int=>IF s.1 s.2) (λs=>(s.2,s.1)) (λs=>s.2.length=X.length) ?_ ?_ (1,X) rfl
   ·rintro⟨j,m⟩ hm;simp only[IF,AQ,Bu,hm]
    cases decide (j<(X.length:Int))with
    |false=>rfl
    |true=>
     rw[gL (body:=λs:Int×List An=>AX (LS Bm) ((0:Nat):Int) s.1 s.2) (body':=λs:List An×Int=>IE s.1 s.2) (λs=>(s.2,s.1)) (λs=>fH s.2 s.1) (j,m)];cases Aj (λs:Int×List An=>AX (LS Bm) ((0:Nat):Int) s.1 s.2) (j,m)<;>rfl
   rintro⟨j,m⟩ s' hm hb;simp only[AQ]at hb
   cases hc:decide (j<(X.length:Int))with
   |false=>grind
   |true=>
    rw[hc,Ak]at hb;obtain⟨m',h1,hb⟩:=Ae.1 hb
    injection hb with hb
    injection hb with hb
    subst hb;exact(uM h1).trans hm
  rw[hc];exact h8
 ·unfold Io
  grind
 ·grind [By.len]
 grind [By.mem]
theorem LB {S:Type} {body:S->Option (S⊕List α)} (a:List α->Int->S) (g:Nat->α->α) (l0:List α) (h1:∀(i:Nat) (l:List α) x,l.length=l0.length->l[i]?=some x->l0[i]?=some x->body (a l (i:Nat))=some (.inl (a (l.set i (g i x)) ((i+1:Nat):Int)))) (h2:∀l:List α,l.length=l0.length->body (a l (l0.length:Nat))=some (.inr l)):Aj body (a l0 0)=some (l0.mapIdx g):=by
 obtain⟨b,h3,h4⟩:=AD (body:=body) a l0.length (λi l=>l.length=l0.length/\∀j,l[j]?=if j<i then(l0[j]?).map (g j)else l0[j]?) (λb=>b=l0.mapIdx g)
  (λl i hi hs=>by
   obtain⟨hl,hs⟩:=hs;have c:l0[i]?=some l0[i]:=Ab hi
   grind)
  (λl hs=>⟨l,h2 l hs.1,by
   apply BC
   grind⟩) (s:=l0) ⟨rfl,λj=>by rfl⟩
 rw[h3,h4]
abbrev Ks:=List Bk
def dk:Bk:=Bk.mk true []
def B4 (K:Ks) (i:Int):Bk:=(gi K i).getD dk
def MF (k:Bk) (j:Nat):Int:=(k.Kids[j]?).getD 0
def OB (K:Ks) (i:Nat) (leaf:Bool) (n:Int):Bool:=bif leaf then decide (0<=n)else(n== -1||(decide (0<=n/\n<=(i:Int)-1)&&(B4 K n).Leaf))
def Cq (K:Ks):Bool:=K.zipIdx.all λz=>z.1.Kids.length==4&&z.1.Kids.all (OB K z.2 z.1.Leaf)
def CJ (K:Ks) (r:Int):Bool:=r== -1||(decide (0<=r/\r<(K.length:Int))&&!(B4 K r).Leaf)
def O6 (K:Ks) (root:Int) (s:Nat):Int:=if root<0 then 0 else if MF (B4 K root) (s/4)<0 then 0 else MF (B4 K<|MF (B4 K root)<|s/4)<|s %4
def Ej (K:Ks) (root:Int):List Int:=(List.range 16).map<|O6 K root
variable {K X:Ks}
theorem Sh (h:i<K.length):B4 K (i:Int)=K[i]:=by grind [Ar,B4]
theorem Gm {i:Int} (h0:0<=i) (h:i<(K.length:Int)):gi K i=some (B4 K i):=by grind [P6,B4]
theorem Du (x a b:Int):Bw x a b=some (decide (a<=x/\x<=b)):=by
 rw[Wc];simp
theorem GX:Cq K=true↔∀i:Nat,i<K.length->(B4 K (i:Int)).Kids.length=4/\∀n∈(B4 K (i:Int)).Kids,OB K i (B4 K (i:Int)).Leaf n=true:=by simp_all [Sh,List.mem_zipIdx_iff_getElem?,Af,Cq];grind
theorem IL (a:Arena) (ha:a.Knots.length<=1048576):Fj a=some (Cq a.Knots):=by
 unfold Fj;have h:=VY (body:=λs:Int=>D6 a s) a.Knots (λi k=>k.Kids.length==4&&k.Kids.all (OB a.Knots i k.Leaf)) (.inr false) (.inl ()) (by omega)
  (λi k hk=>by
   have hi:=(Af.1 hk).1;simp only[D6,EM hi,Ar,hk,Aa];by_cases h4:k.Kids.length=4
   ·have e1:(ln k.Kids !=4)=false:=by simp[ln,h4]
    have e2:(k.Kids.length==4)=true:=by simp[h4]
    simp only[e1,Ad,e2,Bool.true_and];have q:=VY (body:=λs:Int=>DP a (i:Int) k s) k.Kids (λ_ n=>OB a.Knots i k.Leaf n) (.inr<|.inr<|.inr false) (.inl ()) (by omega)
     (λj n hn=>by
      have hj:=(Af.1 hn).1;simp only[DP];rw[cT,Ar,hn];simp only[Aa,OB]
      cases hl:k.Leaf with
      |true=>grind [ad1]
      |false=>
       simp only[Ad,DF,Ak];by_cases h1:n= -1
       ·grind [ad1]
       grind [BV,Du,Gm,ad1])
     (by grind [DP])
    rw[q];have hz:(k.Kids.zipIdx.all λz=>OB a.Knots i k.Leaf z.1)=k.Kids.all (OB a.Knots i k.Leaf):=by
     rw[show(λz:Int×Nat=>OB a.Knots i k.Leaf z.1)=(OB a.Knots i k.Leaf)∘Prod.fst from rfl,<-List.all_map];simp
    grind [ad1]
   grind [ln])
  (by simp[En,D6])
 grind [Cq]
theorem KO (a:Arena) (ha:a.Knots.length<=1048576) (r:Int):FY a r=some (CJ a.Knots r):=by grind [Bu,BV,Du,Gm,FY,CJ]
theorem B8 (h:CJ K r=true):r= -1\/(0<=r/\r<(K.length:Int)/\(B4 K r).Leaf=false):=by grind [CJ]
theorem Ee (hK:Cq K=true) (h0:0<=r) (h1:r<(K.length:Int)):(B4 K r).Kids.length=4/\∀j,j<4->(B4 K r).Kids[j]?=some (MF (B4 K r) j)/\OB K r.toNat (B4 K r).Leaf (MF (B4 K r) j)=true:=by
 have:=GX.1 hK r.toNat<|by omega
 grind [MF]
theorem EG (hK:Cq K=true) (h0:0<=r) (h1:r<(K.length:Int)) (hl:(B4 K r).Leaf=false) (hj:j<4):MF (B4 K r) j= -1\/(0<=MF (B4 K r) j/\MF (B4 K r) j<r/\(B4 K (MF (B4 K r) j)).Leaf=true):=by grind [Ee,OB]
theorem qI (hK:Cq K=true) (h0:0<=r) (h1:r<(K.length:Int)) (hl:(B4 K r).Leaf=true) (hj:j<4):0<=MF (B4 K r) j:=by grind [Ee,OB]
theorem xE {s:Nat} (h:s<16):qu (s:Int) 4=((s/4:Nat):Int):=by grind [M8,qu]
theorem nY {s:Nat}:Int.tmod (s:Int) 4=((s %4:Nat):Int):=by rfl
theorem T5 {s:Nat} (a:Arena) (hK:Cq a.Knots=true) (hr:CJ a.Knots r=true) (hs:s<16):Lv a r (s:Int)=some (O6 a.Knots r s):=by
 unfold Lv O6
 rcases B8 hr with rfl|⟨h0,h1,hl⟩
 ·rfl
 rw[Ah (by omega:¬r<0),BE (by omega),Ad,Gm h0 h1];rw[Aa,xE hs,Ar,((Ee hK h0 h1).2 (s/4)<|by omega).1];simp only[Aa]
 rcases EG hK h0 h1 hl (show s/4<4 by omega)with e|⟨e1,e2,e3⟩
 ·rw[e];rfl
 rw[Ah (by omega),BE (by omega),Ad,Gm e1<|by omega];rw[Aa,nY,Ar,((Ee hK e1<|by omega).2 (s %4)<|by omega).1];rfl
theorem V8 {s:Nat} (a:Arena) (ha:a.Knots.length<=1048576) (hK:Cq a.Knots=true) (hr:CJ a.Knots r=true) (hs:s<16):N9 a r (s:Int)=some (O6 a.Knots r s):=by simp_all [IL,KO,Du,T5,N9];grind
theorem L4 (a:Arena) (ha:a.Knots.length<=1048576) (hK:Cq a.Knots=true) (hr:CJ a.Knots r=true):HM a r=some (Ej a.Knots r):=by
 unfold HM;obtain⟨b,h1,h2⟩:=AD (body:=λs:List Int×Int=>Js a r s.1 s.2) (λ(o:List Int) i=>(o,i)) 16 (λi o=>o=(List.range i).map (O6 a.Knots r)) (λb=>b=Ej a.Knots r)
  (λo i hi ho=>by grind [V8,BL,ad1,Do,Js])
  (λo ho=>⟨_,by rfl,ho⟩) (s:=[]) rfl
 grind
theorem Jy {by_:Nat} {l:List α} (h:l.length*by_<=140737488355328):ap by_ [] l=some l:=by grind [BL]
def rG (K:Ks):Prop:=K.length<=1048576/\∀k∈K,k.Kids.length<=1048576
theorem JQ (hK:Cq K=true) (h:K.length<=1048576):rG K:=by
 refine⟨h,λk hk=>?_⟩
 grind [A5,GX,Sh]
theorem RI (a:Arena) (h:rG a.Knots):Lb a=some a:=by
 unfold Lb;have h1:=Sd (body:=λs:Int×List Bk=>I5 a s.1 s.2) a.Knots (λk=>k)
  (λi k b hk ho=>by
   have hi:=(Af.1 hk).1;have hm:=h.2 k<|Ao hk;have:=h.1;simp only[I5,EM hi,Ar,hk,Aa]
   rw[Jy (by omega),Aa,BL (by simp;omega),Aa,ad1])
  (λb=>by simp[En,I5])
 rw[h1];simp
theorem EB (s:Store) (h:rG s.Arena.Knots) (hv:s.Vols.length<=1048576):Dk s=some s:=by
 unfold Dk;rw[Jy (by omega),RI _ h];rfl
def O2 (K:Ks) (r:Int) (s:Nat) (n:Int):List Int:=(if r<0 then [0,0,0,0]else if MF (B4 K r) (s/4)<0 then [0,0,0,0]else(B4 K<|MF (B4 K r)<|s/4).Kids).set (s %4) n
def R5 (K:Ks) (r:Int) (s:Nat):List Int:=(if r<0 then [-1,-1,-1,-1]else(B4 K r).Kids).set (s/4) (K.length:Int)
def Ix (K:Ks) (r:Int) (s:Nat) (n:Int):Ks:=K++ [Bk.mk true<|O2 K r s n,Bk.mk false<|R5 K r s]
theorem mk4:mk 8 (0:Int) 4=some [0,0,0,0]:=by rfl
theorem dL {k:Bk} (h:j<k.Kids.length):gi k.Kids (j:Int)=some (MF k j):=by grind [Ar,MF]
theorem V4 {s:Nat} (a:Arena) (ha:a.Knots.length<=1048000) (hK:Cq a.Knots=true) (hr:CJ a.Knots r=true) (hs:s<16) (hn:0<=n):
  U7 a r (s:Int) n=some (Arena.mk (Ix a.Knots r s n),(a.Knots.length:Int)+1):=by
 unfold U7;rw[RI _ (JQ hK<|by omega),IL a (by omega),KO a (by omega),Du,hK,hr];rw[Ac (by omega:0<=(s:Int)/\(s:Int)<=15),Ah (by omega:¬n<0)];rw[mk4];simp only[Aa];have fin:∀(lf tp:List Int),lf.length=4->tp.length=4->Ix a.Knots r s n=a.Knots++ [Bk.mk true<|lf.set (s %4) n,Bk.mk false<|tp.set (s/4) (a.Knots.length:Int)]->
   ((gi lf<|Int.tmod (s:Int) 4).bind λx4=>(gi tp<|qu (s:Int) 4).bind λx5=>(ap 32 a.Knots [Bk.mk true<|si lf (Int.tmod (s:Int) 4) n,Bk.mk false<|si tp (qu (s:Int) 4)<|ln a.Knots]).bind λq4=>some (Arena.mk q4,sb (ln q4) 1))=some (Arena.mk<|Ix a.Knots r s n,(a.Knots.length:Int)+1):=by
  intro lf tp h1 h2 h3;rw[xE hs,nY,Ar,Ar,Ab (by omega),Ab<|by omega];rw[BL (by simp;omega),CP,CP,Bu,<-h3]
  grind [Bu,BV]
 rcases B8 hr with rfl|⟨h0,h1,hl⟩
 ·rw[Ah (by omega:¬(-1:Int)>=0)];exact fin _ _ rfl rfl rfl
 rw[cT,Gm h0 h1];have h4:=(Ee hK h0 h1).1;simp only[Aa];rw[Jy<|by omega];simp only[Aa];rw[xE hs,dL (by omega:s/4<(B4 a.Knots r).Kids.length)];simp only[Aa];rw[<-xE hs]
 rcases EG hK h0 h1 hl (show s/4<4 by omega)with e|⟨e1,e2,e3⟩
 ·grind [Ix,O2,R5]
 grind [Gm,Ee,Jy,Ix,O2,R5]
def LU (K:Ks) (r:Int) (i:Nat):Bool:=decide (0<=r)&&(decide (r=(i:Int))||(B4 K r).Kids.any λn=>decide<|n=(i:Int))
theorem ZF (n:Nat) (f:Nat->α) (g:Nat->α->α):((List.range n).map f).mapIdx g=(List.range n).map λi=>g i (f i):=by
 apply BC
 grind
theorem MQ (n:Nat) (f:Nat->α) (i:Nat) (x:α) (g:Nat->α) (h:∀j,j<n->g j=if j=i then x else f j):((List.range n).map f).set i x=(List.range n).map g:=by
 apply BC
 grind
theorem Lf {n:Nat} {f:Nat->α} (h:i<n):((List.range n).map f)[i]?=some (f i):=by grind
theorem R8 {m:Nat} (h:l[m]?=some x) (p:Int->Bool):(l.take (m+1)).any p=((l.take m).any p||p x):=by grind [Dc]
theorem bP (a:Arena) (ha:a.Knots.length<=1048576) (hK:Cq a.Knots=true) (hr:CJ a.Knots r=true):RH a r=some ((List.range a.Knots.length).map (LU a.Knots r)):=by
 unfold RH;rw[Bu,VV (by omega)<|by omega];simp only[Aa]
 rcases B8 hr with rfl|⟨h0,h1,hl⟩
 ·simp only[show decide ((-1:Int)<0)=true from rfl,Ak];congr 1;rw[show(LU a.Knots<|-1)=λ_=>false from rfl,KG,E4]
 rw[cF];obtain⟨m,rfl⟩:∃m:Nat,r=(m:Int):=⟨r.toNat,by omega⟩;rw[Ar,List.getElem?_replicate,Cl<|by omega];rw[CP];obtain⟨h4,hk⟩:=Ee hK h0 h1;obtain⟨b,q1,q2⟩:=AD (body:=λs:List Bool×Int=>JW a (m:Int) s.1 s.2) (λ(o:List Bool) i=>(o,i)) 4
  (λi o=>o=(List.range a.Knots.length).map λ(j:Nat)=>decide ((m:Int)=(j:Int))||((B4 a.Knots (m:Int)).Kids.take i).any λn=>decide<|n=(j:Int))
  (λb=>b=(List.range a.Knots.length).map (LU a.Knots (m:Int)))
  (λo i hi ho=>by
   obtain⟨e,_⟩:=hk i hi;simp only[JW];rw[cT,Gm h0 h1];simp only[Aa];rw[Ar,e];simp only[Aa]
   rcases EG hK h0 h1 hl hi with e1|⟨e1,e2,e3⟩
   ·grind [ad1,R8]
   obtain⟨c,hc⟩:∃c:Nat,MF (B4 a.Knots (m:Int)) i=(c:Int):=⟨(MF (B4 a.Knots (m:Int)) i).toNat,by omega⟩;rw[hc,cT];rw[ho,Ar,Lf<|by omega];rw[CP,ad1]
   simp_all [MQ,R8];grind)
  (λo ho=>⟨_,by simp only[JW];rw[cF],by
   rw[ho];apply EP;intro j hj;rw[AS<|by omega]
   rfl⟩) (s:=(List.replicate a.Knots.length false).set m true) (by grind [E4,KG,MQ])
 grind
def Cs (K:Ks) (R:List Int) (i:Nat):Bool:=R.any λr=>LU K r i
def aX (K:Ks) (R:List Int) (i:Nat):Nat:=((List.range i).filter<|Cs K R).length
def O9 (K:Ks) (R:List Int) (n:Int):Int:=if 0<=n then(aX K R n.toNat:Int)else n
def Vj (K:Ks) (R:List Int) (i:Nat):Bk:=Bk.mk (B4 K (i:Int)).Leaf<|bif(B4 K (i:Int)).Leaf then(B4 K (i:Int)).Kids else(B4 K (i:Int)).Kids.map<|O9 K R
def R9 (K:Ks) (R:List Int):Ks:=((List.range K.length).filter<|Cs K R).map<|Vj K R
theorem Hh (l:List α) (f:α->α):l.mapIdx (λ_ x=>f x)=l.map f:=by
 apply BC
 grind
theorem MH (hr:r∈R) (h0:0<=r):Cs K R r.toNat=true:=by grind [Cs,LU]
theorem Vb (hK:Cq K=true) (hR:∀r∈R,CJ K r=true) (hu:Cs K R i=true) (hl:(B4 K (i:Int)).Leaf=false):(i:Int)∈R:=by
 unfold Cs at hu;rw[DZ]at hu;obtain⟨r,hr,h⟩:=hu;unfold LU at h;simp only[Ai,KJ,Bz,DZ]at h;obtain⟨h0,h⟩:=h
 rcases h with h|⟨n,hn,h⟩
 ·grind
 rcases B8 (hR r hr)with e|⟨_,h1,a⟩
 ·omega
 obtain⟨h4,hk⟩:=Ee hK h0 h1;obtain⟨j,hj,b⟩:=A5 hn;have e:=(hk j<|by omega).1
 grind [EG]
theorem R1 (hr:r∈R) (h0:0<=r) (hn:n∈(B4 K r).Kids) (h1:0<=n):Cs K R n.toNat=true:=by grind [Cs,LU]
theorem vV (i:Nat):aX K R i<=i:=by
 have:=MG (Cs K R)<|List.range i;rw[E4]at this;exact this
theorem WW (a:Arena) (ha:a.Knots.length<=1048576) (R:List Int) (hc:R.length<=1048576) (hR:∀r∈R,CJ a.Knots r=true):Aj (λs:Bool×Int=>Ev a R s.1 s.2) (true,0)=some true:=by
 obtain⟨b,h1,h2⟩:=AD (body:=λs:Bool×Int=>Ev a R s.1 s.2) (λ(o:Bool) i=>(o,i)) R.length (λ_ o=>o=true) (λb=>b=true)
  (λo i hi ho=>by
   have hx:=Ab hi;simp only[Ev,Ms,Ac hi,Ak,Aa,ho,Ar,hx];rw[KO a ha,hR _<|Ay hi,Aa,ad1]
   grind)
  (λo ho=>⟨o,by grind [Ms,Ev],ho⟩) (s:=true) rfl
 grind
theorem Zj (a:Arena) (ha:a.Knots.length<=1048576) (hK:Cq a.Knots=true) (R:List Int) (hc:R.length<=1048576) (hR:∀r∈R,CJ a.Knots r=true):
  Aj (λs:List Bool×Int=>Eu a R s.1 s.2) (List.replicate a.Knots.length false,0)=some ((List.range a.Knots.length).map (Cs a.Knots R)):=by
 obtain⟨b,h1,h2⟩:=AD (body:=λs:List Bool×Int=>Eu a R s.1 s.2) (λ(o:List Bool) i=>(o,i)) R.length (λi o=>o=(List.range a.Knots.length).map λ(j:Nat)=>(R.take i).any λr=>LU a.Knots r j) (λb=>b=(List.range a.Knots.length).map (Cs a.Knots R))
  (λo i hi ho=>by
   have hx:=Ab hi;simp only[Eu,EM hi,Aa,Ar,hx];rw[bP a ha hK<|hR _<|Ay hi];simp only[Aa];have q:=LB (body:=λs:List Bool×Int=>FT ((List.range a.Knots.length).map<|LU a.Knots R[i]) s.1 s.2) (λl i=>(l,i)) (λk x=>x||LU a.Knots R[i] k) o
    (λk l x hl c d=>by grind [Ms,Ar,CP,ad1,FT])
    (λl hl=>by grind [Ms,FT])
   rw[q,Aa,ad1,ho,ZF]
   grind [Dc])
  (λo ho=>⟨o,by simp[En,Eu],by rw[ho,AS<|by omega];rfl⟩) (s:=List.replicate a.Knots.length false) (by grind [KG,E4])
 grind
def Ru (K:Ks) (R:List Int) (i:Nat):List Int:=(List.range K.length).map λ(j:Nat)=>if j<i/\Cs K R j=true then(aX K R j:Int)else 0
theorem WX (a:Arena) (ha:a.Knots.length<=1048576) (hK:Cq a.Knots=true) (R:List Int) (hR:∀r∈R,CJ a.Knots r=true):
  Aj (λs:List Int×Int×List Bk=>Et a ((List.range a.Knots.length).map (Cs a.Knots R)) s.1 s.2.1 s.2.2) (List.replicate a.Knots.length 0,0,[])=some (Ru a.Knots R a.Knots.length,R9 a.Knots R):=by
 obtain⟨b,h1,h2⟩:=AD (body:=λs:List Int×Int×List Bk=>Et a ((List.range a.Knots.length).map<|Cs a.Knots R) s.1 s.2.1 s.2.2) (λ(o:List Int×List Bk) i=>(o.1,i,o.2)) a.Knots.length
  (λi o=>o=(Ru a.Knots R i,((List.range i).filter<|Cs a.Knots R).map<|Vj a.Knots R)) (λb=>b=(Ru a.Knots R a.Knots.length,R9 a.Knots R))
  (λo i hi ho=>by
   subst ho;simp only[Et,EM hi];rw[Ar,Lf hi];simp only[Aa]
   cases hu:Cs a.Knots R i with
   |false=>grind [ad1,Do,Ru]
   |true=>
    simp only[Av,Ad];have h0:(0:Int)<=(i:Int):=by omega
    have d:(i:Int)<(a.Knots.length:Int):=by omega
    rw[Gm h0 d];obtain⟨h4,hk⟩:=Ee hK h0 d;simp only[Aa];rw[Jy<|by omega];simp only[Aa];have inner:Aj (λs:Int×List Int=>Es (Ru a.Knots R i) ((B4 a.Knots (i:Int)).Leaf,(B4 a.Knots (i:Int)).Kids) s.1 s.2) (0,(B4 a.Knots (i:Int)).Kids)=some (Vj a.Knots R i).Kids:=by
     unfold Vj
     cases hl:(B4 a.Knots (i:Int)).Leaf with
     |true=>rw[Az];rfl
     |false=>
      have q:=LB (body:=λs:Int×List Int=>Es (Ru a.Knots R i) (false,(B4 a.Knots (i:Int)).Kids) s.1 s.2) (λl k=>(k,l)) (λ_ x=>O9 a.Knots R x) (B4 a.Knots (i:Int)).Kids
       (λk l x g h j=>by
        have m:k<4:=by grind
        have ex:x=MF (B4 a.Knots (i:Int)) k:=by grind
        simp only[Es];rw[Ac (by omega:(k:Int)<4)];simp only[Ak,Aa,DF];rw[Ar,h];simp only[Aa]
        rcases EG hK h0 d hl m with e|⟨e1,e2,e3⟩
        ·rw[cF,ad1];have:O9 a.Knots R x=x:=by unfold O9;omega
         rw[this,show l.set k x=l from by
          apply BC
          grind]
        rw[cT];obtain⟨c,hc⟩:∃c:Nat,x=(c:Int):=⟨x.toNat,by omega⟩;have n:x∈(B4 a.Knots (i:Int)).Kids:=Ao j;have f:=R1 (Vb hK hR hu hl) h0 n (by omega);rw[hc]at f;rw[hc,Ar];unfold Ru;rw[Lf (by omega),Aa,Cl ⟨by omega,f⟩,CP,ad1]
        rfl)
       (λl g=>by grind [Es])
      grind [Hh]
    rw[inner];simp only[Aa];have p:gi (Ru a.Knots R i) (i:Int)=some 0:=by grind [Ar,Ru]
    rw[p];simp only[Aa];have u:=vV (K:=a.Knots) (R:=R) i;have t:(((List.range i).filter<|Cs a.Knots R).map<|Vj a.Knots R).length=aX a.Knots R i:=by rw[BG];rfl
    rw[BL (by grind),Aa,ad1,Bu,t,CP];refine .inl ⟨(_,_),rfl,?_⟩;congr 1
    ·grind [MQ,Ru]
    rw[Do,Cc,Lk hu,List.filter_nil,KH]
    rfl)
  (λo ho=>⟨o,by simp[En,Et],ho⟩) (s:=(List.replicate a.Knots.length 0,[])) (by grind [KG,E4,Ru])
 grind
theorem fU (a:Arena) (ha:a.Knots.length<=1048576) (R:List Int) (hc:R.length<=1048576) (hR:∀r∈R,CJ a.Knots r=true):
  Aj (λs:List Int×Int=>Er (Ru a.Knots R a.Knots.length,R9 a.Knots R) s.1 s.2) (R,0)=some (R.map (O9 a.Knots R)):=by
 have q:=LB (body:=λs:List Int×Int=>Er (Ru a.Knots R a.Knots.length,R9 a.Knots R) s.1 s.2) (λl k=>(l,k)) (λ_ x=>O9 a.Knots R x) R
  (λk l x h b d=>by
   have i:=(Af.1 b).1;simp only[Er,EM i,Ar,b,Aa]
   rcases B8 (hR x<|Ao d)with e|⟨e1,e2,e3⟩
   ·rw[cF,ad1];have:O9 a.Knots R x=x:=by unfold O9;omega
    rw[this,show l.set k x=l from by
     apply BC
     grind]
   rw[cT];obtain⟨c,f⟩:∃c:Nat,x=(c:Int):=⟨x.toNat,by omega⟩;have g:=MH (K:=a.Knots) (Ao d) e1;rw[f]at g;rw[f,Ar];unfold Ru;rw[Lf (by omega),Aa,Cl ⟨by omega,g⟩,CP,ad1]
   rfl)
  (λl h=>by grind [Bu,Er])
 grind [Hh]
theorem V0 (a:Arena) (ha:a.Knots.length<=1048576) (hK:Cq a.Knots=true) (R:List Int) (hc:R.length<=1048576) (hR:∀r∈R,CJ a.Knots r=true):
  IA a R=some (Arena.mk (R9 a.Knots R),R.map (O9 a.Knots R)):=by
 unfold IA;rw[Jy (by omega),IL a ha,hK];simp only[Aa];rw[WW a ha R hc hR];rw[Bu,VV (by omega)<|by omega];simp only[Aa];rw[Zj a ha hK R hc hR];rw[VV (by omega)<|by omega];simp_all [WX,fU]
theorem Wu (p:Nat->Bool) (hp:p i=true):∀{n:Nat},i<n->((List.range n).filter p)[((List.range i).filter p).length]?=some i
 |0,h=>by omega
 |n+1,h=>by
  rw[Do,Cc];by_cases e:i=n
  ·grind
  have h2:=Wu p hp<|show i<n by omega
  grind
theorem qZ {n:Nat} (p:Nat->Bool) (hp:p i=true) (h:i<n):((List.range i).filter p).length<((List.range n).filter p).length:=(Af.1<|Wu p hp h).1
theorem dQ (p:Nat->Bool):∀{n j:Nat},j<((List.range n).filter p).length->∃i,i<n/\p i=true/\((List.range i).filter p).length=j
 |0,j,h=>by simp at h
 |n+1,j,h=>by
  rw[Do,Cc,AC]at h;by_cases e:j<((List.range n).filter p).length
  ·obtain⟨i,h1,h2,h3⟩:=dQ p e
   grind
  grind
theorem jH:(R9 K R).length=aX K R K.length:=by unfold R9 aX;rw[BG]
theorem PG (hu:Cs K R i=true) (hi:i<K.length):B4 (R9 K R) (aX K R i:Nat)=Vj K R i/\aX K R i<(R9 K R).length:=by grind [Ar,Wu,aX,R9,B4]
theorem n8 (hj:j<(R9 K R).length):∃i,i<K.length/\Cs K R i=true/\aX K R i=j:=by
 rw[jH]at hj;exact dQ (Cs K R) hj
theorem zS (hu:Cs K R i=true) (h:i<j):aX K R i<aX K R j:=qZ _ hu h
theorem Vi (i:Nat):(Vj K R i).Leaf=(B4 K (i:Int)).Leaf:=rfl
theorem jF (hK:Cq K=true) (hi:i<K.length):(Vj K R i).Kids.length=4:=by grind [GX,Vj]
theorem jG (hl:(B4 K (i:Int)).Leaf=false) (hj:j<(B4 K (i:Int)).Kids.length):MF (Vj K R i) j=O9 K R (MF (B4 K (i:Int)) j):=by
 unfold MF Vj
 grind
theorem Q9 (hl:(B4 K (i:Int)).Leaf=true):(Vj K R i).Kids=(B4 K (i:Int)).Kids:=by grind [Vj]
theorem UB (h:n<0):O9 K R n=n:=by unfold O9;omega
theorem PW (n:Nat):O9 K R (n:Int)=(aX K R n:Int):=by rfl
theorem wS (hK:Cq K=true) (hR:∀r∈R,CJ K r=true):Cq (R9 K R)=true:=by
 rw[GX];intro j hj;obtain⟨i,hi,hu,rfl⟩:=n8 hj;rw[(PG hu hi).1];refine⟨jF hK hi,λn hn=>?_⟩;have h0:(0:Int)<=(i:Int):=by omega
 have h1:(i:Int)<(K.length:Int):=by omega
 obtain⟨h4,hk⟩:=Ee hK h0 h1;rw[Vi]
 cases hl:(B4 K (i:Int)).Leaf with
 |true=>grind [Q9,GX,OB]
 |false=>
  obtain⟨m,hm,b⟩:=A5 hn;rw[jF hK hi]at hm;have e:n=O9 K R (MF (B4 K (i:Int)) m):=by
   rw[<-jG hl (by omega),<-b]
   grind [MF]
  rcases EG hK h0 h1 hl hm with k1|⟨k1,k2,k3⟩
  ·rw[k1,UB<|by omega]at e;subst e;rfl
  obtain⟨c,hc⟩:∃c:Nat,MF (B4 K (i:Int)) m=(c:Int):=⟨_,(AT k1).symm⟩;rw[hc]at e k2 k3;rw[PW]at e;have a:=R1 (Vb hK hR hu hl) h0 (Ao (hk m hm).1) (by omega);rw[hc]at a;have d:c<K.length:=by omega
  have f:aX K R c<aX K R i:=zS (by simpa using a)<|by omega
  grind [PG,Vi,OB]
theorem oY (hR:∀r∈R,CJ K r=true) (hr:r∈R):CJ (R9 K R) (O9 K R r)=true:=by
 rcases B8 (hR r hr)with e|⟨h0,h1,hl⟩
 ·rw[e,UB<|by omega];rfl
 obtain⟨c,rfl⟩:∃c:Nat,r=(c:Int):=⟨_,(AT h0).symm⟩
 grind [MH,Cp,PG,PW,Vi,CJ]
theorem jQ (hK:Cq K=true) (hR:∀r∈R,CJ K r=true) (hr:r∈R):Ej (R9 K R) (O9 K R r)=Ej K r:=by
 unfold Ej;apply EP;intro s hs;rw[X2]at hs;unfold O6
 rcases B8 (hR r hr)with e|⟨h0,h1,hl⟩
 ·grind [UB]
 obtain⟨c,rfl⟩:∃c:Nat,r=(c:Int):=⟨_,(AT h0).symm⟩;have a:=MH (K:=K) hr h0;rw[Cp]at a;obtain⟨g1,g2⟩:=PG a (by omega);obtain⟨h4,hk⟩:=Ee hK h0 h1;rw[PW,g1,jG hl<|by omega];simp only[BE (show¬((aX K R c:Nat):Int)<0 by omega),BE<|show¬((c:Nat):Int)<0 by omega]
 rcases EG hK h0 h1 hl (show s/4<4 by omega)with k1|⟨k1,k2,k3⟩
 ·grind [UB]
 obtain⟨d,hd⟩:∃d:Nat,MF (B4 K (c:Int)) (s/4)=(d:Int):=⟨_,(AT k1).symm⟩;have b:=R1 hr h0 (Ao (hk (s/4)<|by omega).1) k1
 grind [PW,PG,Q9,MF]
theorem sZ (hK:Cq K=true) (hR:∀r∈R,CJ K r=true) (hj:j<(R9 K R).length):Cs (R9 K R) (R.map (O9 K R)) j=true:=by
 obtain⟨i,hi,hu,rfl⟩:=n8 hj;have hu':=hu;unfold Cs at hu';rw[DZ]at hu';obtain⟨r,hr,h⟩:=hu';unfold LU at h;simp only[Ai,KJ,Bz,DZ]at h;obtain⟨h0,h⟩:=h;unfold Cs;rw[DZ];refine⟨O9 K R r,AA.2 ⟨r,hr,rfl⟩,?_⟩;obtain⟨c,rfl⟩:∃c:Nat,r=(c:Int):=⟨_,(AT h0).symm⟩;rw[PW];unfold LU;simp only[Ai,KJ,Bz,DZ];refine⟨by omega,?_⟩
 rcases h with h|⟨n,hn,h⟩
 ·grind
 right
 rcases B8 (hR _ hr)with e|⟨_,h1,hl⟩
 ·omega
 grind [MH,Cp,PG,PW,Vj]
theorem Ps {i:Int} (h0:0<=i) (h:i<(K.length:Int)):B4 (K++X) i=B4 K i:=by
 obtain⟨c,rfl⟩:∃c:Nat,i=(c:Int):=⟨_,(AT h0).symm⟩
 grind [Ar,B4]
theorem oV (h:CJ K r=true):CJ (K++X) r=true:=by grind [Ps,CJ]
theorem jM (hK:Cq K=true) (h:CJ K r=true):Ej (K++X) r=Ej K r:=by grind [EP,B8,Ps,EG,Ej,O6]
theorem Yv {s:Nat} (hK:Cq K=true) (hr:CJ K r=true) (hs:s<16) (n:Int):(O2 K r s n).length=4:=by grind [B8,EG,Ee,O2]
theorem bB (hK:Cq K=true) (hr:CJ K r=true) (s:Nat):(R5 K r s).length=4:=by grind [B8,Ee,R5]
theorem Tf {s:Nat}:B4 (Ix K r s n) (K.length:Int)=Bk.mk true (O2 K r s n):=by grind [Ar,B4,Ix]
theorem Te {s:Nat}:B4 (Ix K r s n) ((K.length:Int)+1)=Bk.mk false (R5 K r s):=by
 unfold B4 Ix;rw[show(K.length:Int)+1=((K.length+1:Nat):Int)from rfl,Ar,CW (by omega),show K.length+1-K.length=1 by omega];rfl
theorem xG {s:Nat} (hK:Cq K=true) (hr:CJ K r=true) (hs:s<16) (hn:0<=n):Cq (Ix K r s n)=true:=by
 rw[GX];intro j hj;have a:(Ix K r s n).length=K.length+2:=by unfold Ix;simp
 rw[a]at hj;by_cases h:j<K.length
 ·grind [Ps,GX,Ix,OB]
 by_cases e:j=K.length
 ·subst e;rw[Tf];refine⟨Yv hK hr hs n,λm hm=>?_⟩;simp only[OB,Ak,Bz]
  rcases Bs hm with hm|hm
  ·rcases B8 hr with e|⟨h0,h1,hl⟩
   ·grind
   rw[BE<|by omega]at hm
   rcases EG hK h0 h1 hl (show s/4<4 by omega)with k1|⟨k1,k2,k3⟩
   ·grind
   rw[BE<|by omega]at hm;have hq:=GX.1 hK (MF (B4 K r)<|s/4).toNat<|by omega
   grind [OB]
  omega
 have:j=K.length+1:=by omega
 subst this;rw[show((K.length+1:Nat):Int)=(K.length:Int)+1 from rfl,Te];refine⟨bB hK hr s,λm hm=>?_⟩;simp only[OB,Ad,KJ,Q4,Ai,Bz]
 rcases Bs hm with hm|hm
 ·rcases B8 hr with e|⟨h0,h1,hl⟩
  ·grind
  rw[BE<|by omega]at hm;obtain⟨q,hq,rfl⟩:=A5 hm;obtain⟨h4,hk⟩:=Ee hK h0 h1;have e5:=(hk q<|by omega).1
  grind [EG,Ps,Ix]
 grind [Tf]
theorem lW {s:Nat}:CJ (Ix K r s n) ((K.length:Int)+1)=true:=by grind [Te,CJ,Ix]
theorem jW {s:Nat} (hK:Cq K=true) (hr:CJ K r=true) (hs:s<16):Ej (Ix K r s n) ((K.length:Int)+1)=(Ej K r).set s n:=by
 unfold Ej;symm;apply MQ;intro t ht;unfold O6;rw[Te];simp only[BE<|show¬((K.length:Int)+1)<0 by omega];have a:=bB hK hr s;have b:=Yv hK hr hs n;by_cases hq:t/4=s/4
 ·have e1:MF (Bk.mk false<|R5 K r s) (t/4)=(K.length:Int):=by grind [MF,R5]
  rw[e1,BE (by omega),Tf];have e2:MF (Bk.mk true<|O2 K r s n) (t %4)=if t %4=s %4 then n else(if r<0 then 0 else if MF (B4 K r) (s/4)<0 then 0 else MF (B4 K<|MF (B4 K r)<|s/4)<|t %4):=by grind [MF,O2]
  grind
 rw[BE<|show¬t=s by omega];have e1:MF (Bk.mk false<|R5 K r s) (t/4)=if r<0 then-1 else MF (B4 K r) (t/4):=by grind [MF,R5]
 rw[e1]
 grind [B8,EG,Ps,Ix]
def K6 (n:Nat) (p:Nat->Bool):Nat:=((List.range n).filter p).length
theorem Qq (n:Nat) (p:Nat->Bool):K6 (n+1) p=K6 n p+(if p n=true then 1 else 0):=by grind [Do,K6]
theorem UO (p q:Nat->Bool):∀n,K6 n (λj=>p j||q j)<=K6 n p+K6 n q
 |0=>by simp[K6]
 |n+1=>by
  have:=UO p q n
  grind [Qq]
theorem W3 (x:Int):∀n,K6 n (λj=>decide (x=(j:Int)))<=1/\(x>=(n:Int)->K6 n (λj=>decide (x=(j:Int)))=0)
 |0=>by simp[K6]
 |n+1=>by
  obtain⟨h1,h2⟩:=W3 x n
  grind [Qq]
theorem rD (l:List Int) (n:Nat):K6 n (λj=>l.any λx=>decide (x=(j:Int)))<=l.length:=by
 induction l with
 |nil=>simp[K6]
 |cons x l ih=>
  simp only[List.any_cons,AZ];have:=UO (λj=>decide<|x=(j:Int)) (λj=>l.any λx=>decide<|x=(j:Int)) n;have:=(W3 x n).1;omega
theorem uW {n:Nat} {q:Nat->Bool} (h:∀j,j<n->p j=true->q j=true):K6 n p<=K6 n q:=by
 induction n with
 |zero=>simp[K6]
 |succ n ih=>grind [Qq]
theorem dZ {n:Nat} (h:∀j,j<n->p j=true):K6 n p=n:=by
 induction n with
 |zero=>rfl
 |succ n ih=>grind [Qq]
theorem uP (hK:Cq K=true) (hr:CJ K r=true) (n:Nat):K6 n (LU K r)<=5:=by
 have h1:=UO (λj=>decide<|r=(j:Int)) (λj=>(B4 K r).Kids.any λn=>decide<|n=(j:Int)) n;have h2:=(W3 r n).1;have h3:=rD (B4 K r).Kids n
 have h4:K6 n (LU K r)<=K6 n (λj=>decide (r=(j:Int))||(B4 K r).Kids.any λn=>decide<|n=(j:Int)):=uW λj _ h=>by grind [LU]
 rcases B8 hr with e|⟨h0,hl,_⟩
 ·have:K6 n (LU K r)=K6 n (λ_=>false):=by rw[e];rfl
  simp_all;grind
 grind [Ee]
theorem Vc (hK:Cq K=true) (n:Nat):∀(R:List Int),(∀r∈R,CJ K r=true)->K6 n (Cs K R)<=5*R.length
 |[],_=>by simp[K6,Cs]
 |r::R,h=>by
  have h1:=Vc hK n R (λx hx=>h x<|by simp[hx]);have h2:=uP hK (h r<|by simp) n;have h3:=UO (LU K r) (Cs K R) n;have h4:K6 n (Cs K (r::R))=K6 n (λj=>LU K r j||Cs K R j):=rfl
  grind
theorem lG (hK:Cq K=true) (hR:∀r∈R,CJ K r=true):(R9 K R).length<=5*R.length:=by
 rw[jH];exact Vc hK _ R hR
def Bh (s:Store):List Int:=s.Vols.map Vol.Root
structure StoreR (s:Store):Prop where
 len:s.Vols.length<=3
 ar:Cq s.Arena.Knots=true
 nx:1<=s.Next/\s.Next<=1000000000
 ids:∀v∈s.Vols,1<=v.Id/\v.Id<=9
 asc:(s.Vols.map Vol.Id).Pairwise (·<·)
 root:∀r∈Bh s,CJ s.Arena.Knots r=true
 lt:∀r∈Bh s,∀x∈Ej s.Arena.Knots r,x<s.Next
 few:s.Arena.Knots.length<=1000
structure Cr (s:Store):Prop extends StoreR s where
 used:∀i,i<s.Arena.Knots.length->Cs s.Arena.Knots (Bh s) i=true
theorem Cr.small (h:Cr s):s.Arena.Knots.length<=15:=by
 have h1:=Vc h.ar s.Arena.Knots.length (Bh s) h.root;rw[dZ h.used]at h1;have:(Bh s).length=s.Vols.length:=by unfold Bh;rw[BG]
 have:=h.len;omega
def Bn (s:Store):List (Int×List Int):=s.Vols.map λv=>(v.Id,Ej s.Arena.Knots v.Root)
def Jh (s:Store):Store:=Store.mk (s.Vols.map λv=>Vol.mk v.Id<|O9 s.Arena.Knots (Bh s) v.Root) (Arena.mk<|R9 s.Arena.Knots<|Bh s) s.Next
theorem NM (s:Store):Bh (Jh s)=(Bh s).map (O9 s.Arena.Knots (Bh s)):=by simp[Bh,Jh]
theorem jE (h:StoreR s):Cr (Jh s):=by
 have b:(Bh s).length=s.Vols.length:=by unfold Bh;rw[BG]
 refine⟨⟨by unfold Jh;simpa using h.len,wS h.ar h.root,h.nx,?_,?_,?_,?_,?_⟩,?_⟩
 ·intro v hv;unfold Jh at hv;simp only[AA]at hv;obtain⟨w,hw,rfl⟩:=hv;exact h.ids w hw
 ·have:((Jh s).Vols.map Vol.Id)=s.Vols.map Vol.Id:=by unfold Jh;simp
  rw[this];exact h.asc
 ·intro r hr;rw[NM]at hr;obtain⟨q,hq,rfl⟩:=AA.1 hr;exact oY h.root hq
 ·intro r hr;rw[NM]at hr;obtain⟨q,hq,rfl⟩:=AA.1 hr;have:=jQ h.ar h.root hq;intro x hx;have a:x∈Ej s.Arena.Knots q:=by rw[<-this];exact hx
  exact h.lt q hq x a
 ·have:=lG h.ar h.root;have:=h.len;show(R9 s.Arena.Knots<|Bh s).length<=1000;omega
 intro i hi;rw[NM];exact sZ h.ar h.root hi
theorem XG (h:StoreR s):Bn (Jh s)=Bn s:=by
 unfold Bn;show(s.Vols.map λv=>Vol.mk v.Id<|O9 s.Arena.Knots (Bh s) v.Root).map _=_;rw[HI];apply EP;intro v hv;have:=jQ h.ar h.root<|show v.Root∈Bh s from AA.2 ⟨v,hv,rfl⟩;show(v.Id,Ej (R9 s.Arena.Knots<|Bh s)<|O9 s.Arena.Knots (Bh s) v.Root)=_;rw[this]
theorem QB (s:Store) (hv:s.Vols.length<=1048576):Lt s=some (Bh s):=by
 unfold Lt;obtain⟨b,h1,h2⟩:=AD (body:=λq:List Int×Int=>H0 s q.1 q.2) (λ(o:List Int) i=>(o,i)) s.Vols.length (λi o=>o=(s.Vols.take i).map Vol.Root) (λb=>b=Bh s)
  (λo i hi ho=>by
   have hx:=Ab hi;simp only[H0,EM hi,Ar,hx,Aa]
   grind [BL,ad1,Dc])
  (λo ho=>⟨o,by simp[En,H0],by rw[ho,AS<|A8 _];rfl⟩) (s:=[]) rfl
 grind
theorem JB (h:StoreR s):FH s=some (Jh s):=by
 have hl:=h.len;have hf:=h.few;have c:(Bh s).length=s.Vols.length:=by unfold Bh;rw[BG]
 unfold FH;rw[QB s<|by omega];simp only[Aa];rw[V0 _ (by omega) h.ar _ (by omega) h.root];rw[Jy<|by omega];simp only[Aa];have q:=LB (body:=λq:Int×List Vol=>Hz ((Bh s).map<|O9 s.Arena.Knots<|Bh s,R9 s.Arena.Knots<|Bh s) q.1 q.2) (λl i=>(i,l)) (λ_ v=>Vol.mk v.Id<|O9 s.Arena.Knots (Bh s) v.Root) s.Vols
  (λi l x a b d=>by
   have hi:=(Af.1 b).1;simp only[Hz,EM hi]
   grind [Ar,CP,ad1,Bh])
  (λl a=>by grind [Bu,Hz])
 rw[Hh]at q;rw[q];rfl
theorem Vh (h:Cr s):Jh s=s:=by
 have d:∀i,i<=s.Arena.Knots.length->aX s.Arena.Knots (Bh s) i=i:=λi hi=>dZ λj hj=>h.used j<|by omega
 have b:∀n:Int,n<(s.Arena.Knots.length:Int)->O9 s.Arena.Knots (Bh s) n=n:=λn hn=>by
  unfold O9
  grind
 have a:∀r∈Bh s,O9 s.Arena.Knots (Bh s) r=r:=λr hr=>by
  rcases B8 (h.root r hr)with e|⟨h0,h1,_⟩
  ·grind
  exact b r h1
 have c:R9 s.Arena.Knots (Bh s)=s.Arena.Knots:=by
  unfold R9;rw[Ha.2 λi hi=>h.used i<|by simpa using hi];apply BC;intro i;rw[I2];by_cases hi:i<s.Arena.Knots.length
  ·rw[List.getElem?_range hi,Ab hi];simp only[EJ];congr 1;have h0:(0:Int)<=(i:Int):=by omega
   have h1:(i:Int)<(s.Arena.Knots.length:Int):=by omega
   unfold Vj
   cases hl:(B4 s.Arena.Knots (i:Int)).Leaf with
   |true=>
    simp only[Ak];rw[<-hl,Sh hi]
   |false=>
    simp only[Ad];have:(B4 s.Arena.Knots (i:Int)).Kids.map (O9 s.Arena.Knots<|Bh s)=(B4 s.Arena.Knots (i:Int)).Kids:=by
     conv=>rhs;rw[<-Rw (B4 s.Arena.Knots (i:Int)).Kids]
     apply EP;intro n hn;obtain⟨q,hq,rfl⟩:=A5 hn;obtain⟨h4,hk⟩:=Ee h.ar h0 h1;have e5:=(hk q<|by omega).1;rw[Ab hq]at e5
     injection e5 with e5
     rw[e5]
     rcases EG h.ar h0 h1 hl (show q<4 by omega)with k1|⟨k1,k2,k3⟩
     ·grind
     grind
    rw[this,<-hl,Sh hi]
  grind
 unfold Jh;rw[c];have:(s.Vols.map λv=>Vol.mk v.Id<|O9 s.Arena.Knots (Bh s) v.Root)=s.Vols:=by
  conv=>rhs;rw[<-Rw s.Vols]
  apply EP;intro v hv;rw[a _<|AA.2 ⟨v,hv,rfl⟩];rfl
 rw[this]
theorem W6 {s:Nat} (hs:s<16):O6 K r s∈Ej K r:=AA.2 ⟨s,by simpa using hs,rfl⟩
theorem Pn (h:l.Pairwise (·<·)) (a:i<j) (hx:l[i]?=some x) (hy:l[j]?=some y):x<y:=by grind [List.pairwise_iff_getElem]
theorem Mi (h:Cr s):Ld s=some true:=by
 have hl:=h.len;have hf:=h.few;have d:(Bh s).length=s.Vols.length:=by unfold Bh;rw[BG]
 unfold Ld;rw[Bu,cF,IL _ (by omega),h.ar,Du,Ac h.nx];obtain⟨b,h1,h2⟩:=AD (body:=λq:Int=>IC s q) (λ(_:Unit) i=>i) s.Vols.length (λ_ _=>True) (λb=>b= .inl ())
  (λ_ i hi _=>by
   have hx:=Ab hi;have hm:s.Vols[i]∈s.Vols:=Ay hi;have hr:s.Vols[i].Root∈Bh s:=AA.2 ⟨_,hm,rfl⟩;simp only[IC,EM hi,Ar,hx,Aa];rw[Du,Ac<|h.ids _ hm,KO _ (by omega),h.root _ hr];simp only[Aa,Av,Ad];have a:(cond (decide<|(i:Int)>0) ((gi s.Vols<|sb (i:Int) 1).bind λx2=>cond (decide<|x2.Id>=s.Vols[i].Id) (some true)<|some false) (some false):Option Bool)=some false:=by
    by_cases h0:i=0
    ·rw[cF]
    rw[cT,BV,show(i:Int)-1=((i-1:Nat):Int) by omega,Ar,Ab<|by omega];simp only[Aa];have:=Pn h.asc (show i-1<i by omega) (x:=s.Vols[i-1].Id) (y:=s.Vols[i].Id) (by grind) (by grind);rw[cF]
   rw[a];obtain⟨c,q1,q2⟩:=AD (body:=λq:Int=>KP s s.Vols[i] q) (λ(_:Unit) i=>i) 16 (λ_ _=>True) (λb=>b= .inl ())
    (λ_ k hk _=>by
     simp only[KP];rw[cT,T5 _ h.ar (h.root _ hr) hk];simp only[Aa];have:=h.lt _ hr _<|W6 hk;rw[cF,ad1]
     simp)
    (λ_ _=>⟨_,by rfl,rfl⟩) (s:=()) trivial
   rw[q1,q2];rw[ad1]
   simp)
  (λ_ _=>⟨_,by simp[En,IC],rfl⟩) (s:=()) trivial
 rw[h1,h2];simp only[Aa,Ei];rw[QB s (by omega),Aa,V0 _ (by omega) h.ar _ (by omega) h.root];have:R9 s.Arena.Knots (Bh s)=s.Arena.Knots:=by
  have:=Vh h
  grind [Jh]
 rw[this];simp
abbrev Vs:=List<|Int×List Int
def Oq (l:Vs) (id:Int):Option (List Int):=(l.find? λp=>p.1==id).map Prod.snd
def mU (l:Vs) (id:Int) (a:List Int):Vs:=(l.filter λp=>decide<|p.1<id)++ [(id,a)]++l.filter λp=>decide<|p.1>id
def AA5 (l:Vs) (id:Int):Vs:=l.filter λp=>p.1 !=id
def lL (l:Vs) (id:Int) (s:Nat) (n:Int):Vs:=l.map λp=>if p.1=id then(p.1,p.2.set s n)else p
def Fw (r:CD):Bool:=decide (0<=r.Arg/\r.Arg<=1000000000)&&(bif r.Kind==1 then r.Vol==0&&r.Chunk==0 else decide (2<=r.Kind/\r.Kind<=5)&&decide (1<=r.Vol/\r.Vol<=9)&&(r.Kind==4||r.Chunk==0)&&
 (bif r.Kind==2 then decide (r.Arg<=9)else bif r.Kind==3 then r.Arg==0 else bif r.Kind==4 then decide (r.Arg<16)&&decide (1<=r.Chunk/\r.Chunk<=1000000000)else decide (r.Arg<16)))
def Tu:List Int:=List.replicate 16 0
def Dv (l:Vs) (nx:Int) (r:CD):Option (Vs×Int):=if Fw r=false then none else if r.Kind=1 then some ([],if r.Arg=0 then 1 else r.Arg) else if r.Kind=2 then
  if(0<r.Arg/\Oq l r.Arg=none)\/Oq l r.Vol≠none\/l.length=3 then none else some (mU l r.Vol (if 0<r.Arg then(Oq l r.Arg).getD Tu else Tu),nx) else if Oq l r.Vol=none\/r.Chunk=1000000000 then none else if r.Kind=3 then some (AA5 l r.Vol,nx) else some (lL l r.Vol r.Arg.toNat r.Chunk,max nx<|r.Chunk+1)
theorem Le (r:CD):Mk r=some (Fw r):=by
 unfold Mk Fw;simp only[Du,Aa]
 grind
theorem EL (s:Store) (hv:s.Vols.length<=1048576) (id:Int):(Dz s id=some (-1)/\∀v∈s.Vols,v.Id≠id)\/∃k:Nat,∃v,Dz s id=some (k:Int)/\s.Vols[k]?=some v/\v.Id=id/\∀j w,j<k->s.Vols[j]?=some w->w.Id≠id:=by
 unfold Dz;obtain⟨b,h1,h2⟩:=AD (body:=λq:Int=>Lu s id q) (λ(_:Unit) i=>i) s.Vols.length (λi _=>∀j w,j<i->s.Vols[j]?=some w->w.Id≠id)
  (λb=>(b= .inl ()/\∀v∈s.Vols,v.Id≠id)\/∃k:Nat,∃v,b= .inr (k:Int)/\s.Vols[k]?=some v/\v.Id=id/\∀j w,j<k->s.Vols[j]?=some w->w.Id≠id)
  (λ_ i hi hs=>by
   have hx:=Ab hi;simp only[Lu,EM hi,Ar,hx,Aa]
   cases e:(s.Vols[i].Id==id)with
   |true=>grind
   |false=>
    rw[ad1];refine .inl ⟨(),rfl,λj w hj hw=>?_⟩
    grind)
  (λ_ hs=>⟨_,by simp[En,Lu],.inl ⟨rfl,λv hv=>by
   obtain⟨j,hj,rfl⟩:=A5 hv
   simp_all⟩⟩) (s:=()) (λj w hj=>by omega)
 grind
theorem Na {id:Int}:(∀v∈s.Vols,v.Id≠id)↔Oq (Bn s) id=none:=by
 unfold Oq Bn;simp
theorem uY {w:Vol} (h:(s.Vols.map Vol.Id).Pairwise (·<·)) (hv:v∈s.Vols) (hw:w∈s.Vols) (e:v.Id=w.Id):v=w:=by
 obtain⟨i,hi,rfl⟩:=A5 hv;obtain⟨j,hj,rfl⟩:=A5 hw;have gi:(s.Vols.map Vol.Id)[i]?=some s.Vols[i].Id:=by grind
 have gj:(s.Vols.map Vol.Id)[j]?=some s.Vols[j].Id:=by grind
 rcases Rv i j with h1|h1|h1
 ·have:=Pn h h1 gi gj;omega
 ·subst h1;rfl
 have:=Pn h h1 gj gi;omega
theorem MZ (h:(s.Vols.map Vol.Id).Pairwise (·<·)) (hv:v∈s.Vols):Oq (Bn s) v.Id=some (Ej s.Arena.Knots v.Root):=by
 unfold Oq;have hm:(v.Id,Ej s.Arena.Knots v.Root)∈Bn s:=AA.2 ⟨v,hv,rfl⟩
 cases hf:(Bn s).find? λp=>p.1==v.Id with
 |none=>grind
 |some p=>
  have h1:=List.find?_some hf;have h2:=List.mem_of_find?_eq_some hf;obtain⟨w,hw,rfl⟩:=AA.1 h2
  grind [uY]
theorem Nh (s:Store):(Bn s).length=s.Vols.length:=by unfold Bn;rw[BG]
theorem cJ (K:Ks):Ej K (-1)=Tu:=by rfl
theorem iK (s:Store) (p:Int->Bool) (t:Store) (hk:t.Arena=s.Arena) (hv:t.Vols=s.Vols.filter λv=>p v.Id):Bn t=(Bn s).filter λq=>p q.1:=by
 unfold Bn;rw[hk,hv,List.filter_map];rfl
theorem Qb {body:List Vol×Int->Option ((List Vol×Int)⊕List Vol)} (l:List Vol) (p:Vol->Bool) (o:List Vol) (hM:l.length+o.length<=1048576) (h1:∀(i:Nat) v (a:List Vol),l[i]?=some v->a.length<=1048576->body (a,(i:Int))=some (.inl (bif p v then a++ [v]else a,((i+1:Nat):Int)))) (h2:∀a,body (a,(l.length:Int))=some (.inr a)):
  Aj body (o,0)=some (o++l.filter p):=by
 obtain⟨b,h3,h4⟩:=AD (body:=body) (λ(q:List Vol) i=>(q,i)) l.length (λi q=>q=o++(l.take i).filter p) (λb=>b=o++l.filter p)
  (λq i hi hq=>by grind [Dc])
  (λq hq=>⟨q,h2 q,by grind⟩) (s:=o) (by simp)
 rw[h3,h4]
theorem qP {R':List Int} (h:∀r∈R,r∈R') (hu:Cs K R i=true):Cs K R' i=true:=by grind [Cs]
theorem Vo {l:List Vol} (h:(l.map Vol.Id).Pairwise (·<·)) (v:Vol):(((l.filter λw=>decide (w.Id<v.Id))++ [v]++l.filter λw=>decide (w.Id>v.Id)).map Vol.Id).Pairwise (·<·):=by simp_all [Ba];grind
theorem XM (l:List Vol) (id:Int):(l.filter λw=>decide (w.Id<id)).length+(l.filter λw=>decide (w.Id>id)).length<=l.length:=by
 induction l with
 |nil=>simp
 |cons v l ih=>grind
def JH (s:Store) (r:CD) (o:Option (Store×Bool)):Prop:=match Dv (Bn s) s.Next r with
 |none=>o=some (s,false)
 |some (l,nx)=>∃t,o=some (t,true)/\Cr t/\Bn t=l/\t.Next=nx
theorem m7 {r:CD} (h:Cr s) (hr:Fw r=true) (hk:r.Kind=2):JH s r (E9 s r):=by
 have hl:=h.len;have d:=JQ h.ar (by have:=h.few;omega);have b:=EB s d (by omega);have hb:Fw r=true:=hr;unfold Fw at hr;rw[hk]at hr;simp at hr;unfold JH Dv;rw[hb,hk];simp only[Bool.true_eq_false,uN,Cm,show¬((2:Int)=1) by omega];unfold E9;have root:(Oq (Bn s) r.Arg=none/\0<r.Arg/\(cond (decide<|r.Arg>0) ((Dz s r.Arg).bind λv1=>cond (decide<|v1<0) ((Dk s).bind λv2=>some<|.inr (v2,false))<|(gi s.Vols v1).bind λx1=>some<|.inl x1.Root) (some<|.inl<|-1):Option (Int⊕(Store×Bool)))=some (.inr (s,false)))\/
   (¬(0<r.Arg/\Oq (Bn s) r.Arg=none)/\∃q,CJ s.Arena.Knots q=true/\(q= -1\/q∈Bh s)/\Ej s.Arena.Knots q=(if 0<r.Arg then(Oq (Bn s) r.Arg).getD Tu else Tu)/\(cond (decide<|r.Arg>0) ((Dz s r.Arg).bind λv1=>cond (decide<|v1<0) ((Dk s).bind λv2=>some<|.inr (v2,false))<|(gi s.Vols v1).bind λx1=>some<|.inl x1.Root) (some<|.inl<|-1):Option (Int⊕(Store×Bool)))=some (.inl q)):=by
  by_cases h0:0<r.Arg
  ·rw[Ac (by omega:r.Arg>0)]
   rcases EL s (by omega) r.Arg with⟨h1,h2⟩|⟨k,v,h1,h2,h3,_⟩
   ·grind [Na]
   right;rw[h1];have hm:=Ao h2;have hg:=MZ h.asc hm;refine⟨λhh=>(by grind),v.Root,h.root _<|AA.2 ⟨v,hm,rfl⟩,.inr<|AA.2 ⟨v,hm,rfl⟩,?_,?_⟩
   ·grind
   grind [Ar]
  right;rw[Ah (by omega:¬r.Arg>0),BE h0];exact⟨λhh=>h0 hh.1,-1,rfl,.inl rfl,cJ _,rfl⟩
 rcases root with⟨g1,g2,g3⟩|⟨g1,q,g2,g3,g4,g5⟩
 ·grind
 rw[g5];simp only[Aa,Ei]
 rcases EL s (by omega) r.Vol with⟨h1,h2⟩|⟨k,v,h1,h2,h3,_⟩
 ·rw[h1];rw[Aa,cF,Bu];have j:Oq (Bn s) r.Vol=none:=Na.1 h2;by_cases h3:s.Vols.length=3
  ·grind [Nh]
  have e3:((s.Vols.length:Int)==3)=false:=by simp;omega
  rw[e3,BE<|by grind [Nh]];rw[b];have k1:=Qb (body:=λq:List Vol×Int=>F7 s r q.1 q.2) s.Vols (λv=>decide<|v.Id<r.Vol) [] (by simp;omega)
   (λi v c hv ho=>by
    have hi:=(Af.1 hv).1;simp only[F7,EM hi,Ar,hv,Aa]
    grind [ad1,BL])
   (λc=>by simp[En,F7])
  rw[A0]at k1;rw[k1];simp only[Aa];have l:=XM s.Vols r.Vol;rw[BL (by simp;omega)];simp only[Aa];have k2:=Qb (body:=λq:List Vol×Int=>F6 s r q.1 q.2) s.Vols (λv=>decide<|v.Id>r.Vol) ((s.Vols.filter λv=>decide<|v.Id<r.Vol)++ [Vol.mk r.Vol q]) (by simp;omega)
   (λi v c hv ho=>by
    have hi:=(Af.1 hv).1;simp only[F6,EM hi,Ar,hv,Aa]
    grind [ad1,BL])
   (λc=>by simp[En,F6])
  rw[k2];have f:((s.Vols.filter λv=>decide<|v.Id<r.Vol)++ [Vol.mk r.Vol q]++s.Vols.filter λv=>decide<|v.Id>r.Vol).length<=3:=by grind
  have g:∀x∈Bh s,x∈(Bh<|Store.mk ((s.Vols.filter λv=>decide<|v.Id<r.Vol)++ [Vol.mk r.Vol q]++s.Vols.filter λv=>decide<|v.Id>r.Vol) s.Arena s.Next):=by
   intro x hx;obtain⟨v,hv,rfl⟩:=AA.1 hx;refine AA.2 ⟨v,?_,rfl⟩
   grind
  have a:∀x∈(Bh<|Store.mk ((s.Vols.filter λv=>decide<|v.Id<r.Vol)++ [Vol.mk r.Vol q]++s.Vols.filter λv=>decide<|v.Id>r.Vol) s.Arena s.Next),x= -1\/x∈Bh s:=by
   intro x hx;obtain⟨v,hv,rfl⟩:=AA.1 hx;simp only[A7,AY,Cb]at hv
   rcases hv with(hv|rfl)|hv
   ·exact .inr<|AA.2 ⟨v,hv.1,rfl⟩
   ·exact g3
   exact .inr<|AA.2 ⟨v,hv.1,rfl⟩
  refine⟨_,rfl,⟨⟨f,h.ar,h.nx,?_,Vo h.asc<|Vol.mk r.Vol q,?_,?_,h.few⟩,?_⟩,?_,rfl⟩
  ·intro v hv;simp only[A7,AY,Cb]at hv
   rcases hv with(hv|rfl)|hv
   ·exact h.ids v hv.1
   ·grind
   exact h.ids v hv.1
  ·intro x hx
   rcases a x hx with e|e
   ·rw[e];rfl
   exact h.root x e
  ·intro x hx
   rcases a x hx with e|e
   ·intro y hy;rw[e]at hy;rw[cJ]at hy;have:=Dl hy;have:=h.nx
    grind
   exact h.lt x e
  ·intro i hi;exact qP g<|h.used i hi
  rw[<-g4];unfold mU Bn;simp only[KH,Nn,List.map_nil,List.filter_map];rfl
 rw[h1];have hg:=MZ h.asc<|Ao h2
 grind
theorem QK {f:α->Int} {l:List α} {v:α} (h:(l.map f).Pairwise (·<·)) (hv:l[k]?=some v):l.take k++l.drop (k+1)=l.filter λw=>f w !=f v:=by
 rw[List.pairwise_map]at h;have hk:=(Af.1 hv).1;have e:l=l.take k++v::l.drop (k+1):=by grind [AJ,Ci]
 rw[e,Ba]at h;obtain⟨h1,h2,h3⟩:=h;rw[C6]at h2
 conv=>rhs;rw[e]
 rw[Cc,List.filter_cons_of_neg<|by simp]
 grind [Ha]
theorem rA (h:Cr s) (id:Int):StoreR (Store.mk (s.Vols.filter λw=>w.Id !=id) s.Arena s.Next):=by
 have hl:=h.len;refine⟨?_,h.ar,h.nx,λv hv=>h.ids v (AY.1 hv).1,?_,?_,?_,h.few⟩
 ·grind
 ·have:=h.asc
  grind
 ·intro x hx;obtain⟨w,hw,rfl⟩:=AA.1 hx;exact h.root _<|AA.2 ⟨w,(AY.1 hw).1,rfl⟩
 intro x hx;obtain⟨w,hw,rfl⟩:=AA.1 hx;exact h.lt _<|AA.2 ⟨w,(AY.1 hw).1,rfl⟩
theorem vT {t:Nat} (h:Cr s) (h2:s.Vols[k]?=some v) (ht:t<16) (hn:0<=n) (e:n+1<=1000000000):StoreR (Store.mk (s.Vols.set k (Vol.mk v.Id ((s.Arena.Knots.length:Int)+1))) (Arena.mk (Ix s.Arena.Knots v.Root t n)) (max s.Next (n+1))):=by
 have hl:=h.len;have hm:=Ao h2;have a:=h.root _<|AA.2 ⟨v,hm,rfl⟩;have f:=h.small
 have b:∀w∈s.Vols.set k (Vol.mk v.Id<|(s.Arena.Knots.length:Int)+1),w∈s.Vols\/w=Vol.mk v.Id ((s.Arena.Knots.length:Int)+1):=λw hw=>Bs hw
 refine⟨by simpa using hl,xG h.ar a ht hn,?_,?_,?_,?_,?_,?_⟩
 ·have:=h.nx
  grind
 ·intro w hw
  rcases b w hw with hw|rfl
  ·exact h.ids w hw
  exact h.ids v hm
 ·have:(s.Vols.set k<|Vol.mk v.Id<|(s.Arena.Knots.length:Int)+1).map Vol.Id=s.Vols.map Vol.Id:=by
   rw[List.map_set];apply BC
   grind
  rw[this];exact h.asc
 ·intro x hx;obtain⟨w,hw,rfl⟩:=AA.1 hx
  rcases b w hw with hw|rfl
  ·exact oV<|h.root _<|AA.2 ⟨w,hw,rfl⟩
  exact lW
 ·intro x hx y hy;obtain⟨w,hw,rfl⟩:=AA.1 hx;show y<max s.Next (n+1)
  rcases b w hw with hw|rfl
  ·have d:=h.root _<|AA.2 ⟨w,hw,rfl⟩;have c:y∈Ej s.Arena.Knots w.Root:=by rw[<-jM (X:=[Bk.mk true<|O2 s.Arena.Knots v.Root t n,Bk.mk false<|R5 s.Arena.Knots v.Root t]) h.ar d];exact hy
   have:=h.lt _ (AA.2 ⟨w,hw,rfl⟩) y c;omega
  have c:y∈(Ej s.Arena.Knots v.Root).set t n:=by rw[<-jW (s:=t) (n:=n) h.ar a (by omega)];exact hy
  rcases Bs c with c|rfl
  ·have:=h.lt _ (AA.2 ⟨v,hm,rfl⟩) y c;omega
  omega
 grind [Ix]
theorem Wy (h:Cr s) (r:CD):JH s r (PS s r):=by
 have hl:=h.len;have d:=JQ h.ar (by have:=h.few;omega);have c:=EB s d (by omega);unfold PS;rw[Mi h,Le];simp only[Aa,Av,Ad]
 cases hb:Fw r with
 |false=>grind [JH,Dv]
 |true=>
  have hr:=hb;unfold Fw at hr
  cases k1:(r.Kind==1)with
  |true=>
   have e1:r.Kind=1:=by simpa using k1
   rw[e1]at hr;simp at hr;unfold JH Dv;rw[hb,e1];have:(cond (r.Arg==0) (some 1) (some r.Arg):Option Int)=some (if r.Arg=0 then 1 else r.Arg):=by grind
   rw[this];refine⟨_,rfl,⟨⟨by simp,rfl,?_,by simp,by simp,by simp[Bh],by simp[Bh],by simp⟩,by simp⟩,rfl,rfl⟩
   grind
  |false=>
   have n1:r.Kind≠1:=by simpa using k1
   rw[k1]at hr
   cases k2:(r.Kind==2)with
   |true=>
    have:=m7 h hb (by simpa using k2);have e:((E9 s r).bind λv4=>some (v4.1,v4.2))=E9 s r:=by cases E9 s r<;>rfl
    grind
   |false=>
    have n2:r.Kind≠2:=by simpa using k2
    unfold JH Dv;rw[hb];simp only[Bool.true_eq_false,uN,BE n1,BE n2]
    rcases EL s (by omega) r.Vol with⟨h1,h2⟩|⟨k,v,h1,h2,h3,_⟩
    ·grind [Na]
    rw[h1];simp only[Aa];rw[cF];simp only[Aa];have hm:=Ao h2;have f:=(Af.1 h2).1;have hg:=MZ h.asc hm
    cases hc:(r.Chunk==1000000000)with
    |true=>grind
    |false=>
     have n:r.Chunk≠1000000000:=by simpa using hc
     rw[BE (by grind),c];simp only[Aa]
     cases k3:(r.Kind==3)with
     |true=>
      have e3:r.Kind=3:=by simpa using k3
      rw[Cl e3];rw[Bu,ad1];have d1:dr s.Vols 0 (k:Int)=some (s.Vols.take k):=by grind [dr]
      have d2:dr s.Vols ((k+1:Nat):Int) (s.Vols.length:Int)=some (s.Vols.drop<|k+1):=by grind [AS,dr]
      rw[d1,d2];simp only[Aa];rw[Jy (by simp;omega)];simp only[Aa];rw[BL (by simp;omega),QK h.asc h2,h3];simp only[Aa];have hR:=rA h r.Vol;rw[JB hR];refine⟨_,rfl,jE hR,?_,rfl⟩;rw[XG hR];exact iK s (λid=>id !=r.Vol) _ rfl rfl
     |false=>
      have n3:r.Kind≠3:=by simpa using k3
      rw[BE n3];have ha:0<=r.Arg/\r.Arg<16/\0<=r.Chunk/\r.Chunk<=1000000000:=by grind
      obtain⟨t,ht⟩:∃t:Nat,r.Arg=(t:Int):=⟨_,(AT ha.1).symm⟩;rw[Ar,h2];simp only[Aa];have a:=h.root _<|AA.2 ⟨v,hm,rfl⟩;rw[ht,V4 _ (by have:=h.few;omega) h.ar a (by omega) ha.2.2.1];simp only[Aa];rw[CP];have hR:=vT h h2 (show t<16 by omega) ha.2.2.1 (show r.Chunk+1<=1000000000 by omega);have m:Bn (Store.mk (s.Vols.set k<|Vol.mk v.Id<|(s.Arena.Knots.length:Int)+1) (Arena.mk<|Ix s.Arena.Knots v.Root t r.Chunk)<|max s.Next<|r.Chunk+1)=lL (Bn s) r.Vol t r.Chunk:=by
       unfold Bn lL;simp only[HI];apply BC;intro j;rw[I2,I2,List.getElem?_set];by_cases e:k=j
       ·subst e;rw[Cl rfl,Cl f,h2];simp only[EJ,Function.comp];rw[Cl h3,jW h.ar a<|by omega]
       rw[BE e]
       cases hj:s.Vols[j]? with
       |none=>rfl
       |some w=>
        have g:=Ao hj;have i:w.Id≠r.Vol:=by
         intro e2;have gi:(s.Vols.map Vol.Id)[k]?=some v.Id:=by grind
         have gj:(s.Vols.map Vol.Id)[j]?=some w.Id:=by grind
         rcases Rv k j with q|q|q
         ·have:=Pn h.asc q gi gj;omega
         ·exact e q
         grind
        simp only[EJ,Function.comp];rw[BE i];have:=jM (X:=[Bk.mk true<|O2 s.Arena.Knots v.Root t r.Chunk,Bk.mk false<|R5 s.Arena.Knots v.Root t]) h.ar<|h.root _<|AA.2 ⟨w,g,rfl⟩
        grind [Ix]
      have l:∀b:Bool,b=decide (r.Chunk>=s.Next)->(cond b ((FH<|Store.mk (s.Vols.set k<|Vol.mk v.Id<|(s.Arena.Knots.length:Int)+1) (Arena.mk<|Ix s.Arena.Knots v.Root t r.Chunk)<|ad r.Chunk 1).bind λv11=>some (v11,true))<|(FH<|Store.mk (s.Vols.set k<|Vol.mk v.Id<|(s.Arena.Knots.length:Int)+1) (Arena.mk<|Ix s.Arena.Knots v.Root t r.Chunk) s.Next).bind λv12=>some (v12,true))=(FH<|Store.mk (s.Vols.set k<|Vol.mk v.Id<|(s.Arena.Knots.length:Int)+1) (Arena.mk<|Ix s.Arena.Knots v.Root t r.Chunk)<|max s.Next<|r.Chunk+1).bind λv=>some (v,true):=by grind [Ca]
      rw[l _ rfl,JB hR];refine⟨_,rfl,jE hR,?_,rfl⟩
      grind [XG]
theorem p9 (s:ByteArray) (f a:Int):Lw s f a=Aj (λn:Int=>FM s a f n) 0:=by
 show(Aj (λn:Int=>FM s a f n) 0).bind _=_;simp
theorem pZ (s:ByteArray) (f a:Nat) (hf:f<a) (ha:a<=(L s).length) (hs:(L s).length<=64):∃k:Nat,Aj (λn:Int=>FM s (a:Int) (f:Int) n) 0=some (k:Int)/\k<=31/\a+k<=(L s).length:=by
 obtain⟨b,h1,k,rfl,h2,h3⟩:=AD (body:=λn:Int=>FM s (a:Int) (f:Int) n) (λ(_:Unit) i=>i) 31 (λi _=>a+i<=(L s).length) (λb=>∃k:Nat,b=(k:Int)/\k<=31/\a+k<=(L s).length)
  (λ_ i hi hs=>by
   simp only[FM];rw[cT,Ca,Ca,Bq];by_cases c:a+i<(L s).length
   ·rw[cT];have e1:((f:Int)+(i:Int))=((f+i:Nat):Int):=by omega
    have e2:((a:Int)+(i:Int))=((a+i:Nat):Int):=by omega
    rw[e1,e2,DO s (by omega),DO s c];simp only[Aa]
    cases((((L s)[f+i]).toNat:Int)==(((L s)[a+i]).toNat:Int))with
    |true=>
     rw[ad1];exact .inl ⟨(),rfl,by omega⟩
    |false=>grind
   grind)
  (λ_ hs=>by
   simp only[FM];rw[cF]
   exact⟨_,rfl,31,rfl,by omega,hs⟩) (s:=()) (by omega)
 grind
theorem gJ (s:ByteArray) (a:Nat) (ha:a<=(L s).length) (hs:(L s).length<=64):∃z b:Nat,Th s (a:Int)=some ((z:Int),(b:Int))/\Aj (λq:Int×Int×Int=>D0 s (a:Int) q.1 q.2.1 q.2.2) (0,0,sb (a:Int) 1)=some ((z:Int),(b:Int))/\z<=31/\a+z<=(L s).length/\(z=0\/4<=z/\1<=b/\b<=a):=by
 have c:(λq:Int×Int×Int=>D0 s (a:Int) q.1 q.2.1 q.2.2)=λq:Int×Int×Int=>Hk s (a:Int) q.1 q.2.1 q.2.2:=by grind [p9,D0,Hk]
 rw[c,BV];obtain⟨r,h1,z,b,rfl,h2,h3,h4⟩:=AD (body:=λq:Int×Int×Int=>Hk s (a:Int) q.1 q.2.1 q.2.2) (λ(q:Nat×Nat) i=>((q.1:Int),(q.2:Int),(a:Int)-1-i)) a (λi q=>q.1<=31/\a+q.1<=(L s).length/\(q.1=0\/4<=q.1/\1<=q.2/\q.2<=a)) (λr=>∃z b:Nat,r=((z:Int),(b:Int))/\z<=31/\a+z<=(L s).length/\(z=0\/4<=z/\1<=b/\b<=a))
  (λq i hi hq=>by
   obtain⟨k,m1,m2,m3⟩:=pZ s (a-1-i) a (by omega) ha hs;have e1:((a:Int)-1-(i:Int))=((a-1-i:Nat):Int):=by omega
   simp only[Hk,e1];rw[Ac (by omega:(((a-1-i:Nat)):Int)>=0),Ak,m1,Aa,BV,BV];refine .inl ?_;have e2:(((a-1-i:Nat):Int)-1)=(a:Int)-1-((i+1:Nat):Int):=by omega
   have e3:((a:Int)-((a-1-i:Nat):Int))=((1+i:Nat):Int):=by omega
   rw[e2,e3];by_cases h4:4<=k
   ·rw[cT];by_cases h5:q.1<k
    ·rw[Ac (by omega:(k:Int)>(q.1:Int))];exact⟨(k,1+i),rfl,m2,m3,.inr ⟨h4,by omega,by omega⟩⟩
    grind
   grind)
  (λq hq=>by
   simp only[Hk]
   grind) (s:=(0,0)) ⟨by omega,by omega,.inl rfl⟩
 grind [BV,Th]
def R7 (t:AL):Prop:=(t.Back=0/\t.Size=0/\1<=(L t.Text).length/\(L t.Text).length<=31)\/(1<=t.Back/\t.Back<=64/\4<=t.Size/\t.Size<=31/\L t.Text=[])
theorem F8 (l:List α) (x:α):gi (l++ [x]) (l.length:Int)=some x:=by
 rw[Ar];simp
theorem Ia (l:List α) (x y:α):si (l++ [x]) (l.length:Int) y=l++ [y]:=by
 rw[CP];simp
theorem eJ (s:ByteArray) (hs:(L s).length<=64):∃l,Jp s=some l/\Rg s=some l/\l.length<=64/\∀t∈l,R7 t:=by
 unfold Jp Rg;obtain⟨l,h1,h2,h3,h4⟩:=PZ (body:=λq:List AL×Int=>Ch s q.1 q.2) (body':=λq:List AL×Int=>MB s q.1 q.2) (λq=>(L s).length-q.2.toNat)
  (λq=>∃a:Nat,q.2=(a:Int)/\a<=(L s).length/\q.1.length<=a/\∀t∈q.1,R7 t) (λl=>l.length<=64/\∀t∈l,R7 t)
  (by
   rintro⟨f,at_⟩ ⟨a,ha,h1,h2,h3⟩;simp only at ha h2 h3;subst ha;simp only[Ch,MB];rw[Bq];by_cases i:a<(L s).length
   ·rw[Ac (by omega:(a:Int)<((L s).length:Int)),Ak,Ak];obtain⟨z,b,m1,m2,m3,m4,m5⟩:=gJ s a h1 hs;rw[m1,m2];simp only[Aa]
    have c:∀x:AL,ap 32 f [x]=some (f++ [x]):=λx=>BL<|by grind
    refine .inl ?_;by_cases hz:z=0
    ·subst hz;have esub:sub s (a:Int) (ad (a:Int) 1)=some (s.extract a<|a+1):=by rw[ad1];exact E6 s (by omega) (by omega)
     have elen:(L<|s.extract a<|a+1).length=1:=by grind [Iv]
     rw[esub,ad1,BV (by rw[Bu];omega) (by rw[Bu];omega),Bu]
     have ecat:∀x:ByteArray,(L x).length<=31->Qs x (s.extract a<|a+1)=some (x++s.extract a (a+1)):=λx hx=>FP _ _ (by rw[elen];omega)
     have e0:Qs (bs []) (s.extract a<|a+1)=some (s.extract a<|a+1):=by
      rw[ecat _ (by rw[DL];simp)];rfl
     have enew:R7 (AL.mk 0 0<|s.extract a<|a+1):= .inl ⟨rfl,rfl,by grind,by grind⟩
     have d:∀(o:List AL) (x:AL),(∀t∈o,R7 t)->R7 x->∀t∈o++ [x],R7 t:=λo x ho hx t ht=>by grind
     have fin:∀o:List AL,o.length<=a+1->(∀t∈o,R7 t)->(∃a':Nat,((a+1:Nat):Int)=(a':Int)/\a'<=(L s).length/\o.length<=a'/\∀t∈o,R7 t)/\(L s).length-(((a+1:Nat)):Int).toNat<(L s).length-((a:Int)).toNat:=λo g h=>⟨⟨a+1,rfl,by omega,g,h⟩,by omega⟩
     rcases FB f with rfl|⟨o,x,rfl⟩
     ·simp only[KI,Int.ofNat_zero,Int.zero_sub];rw[Ac (by omega:(-1:Int)<0),Ah (by omega:¬(-1:Int)>=0)];simp only[Ak,Ad,Aa,c];rw[show ad (-1) 1=(([]:List AL).length:Int)from rfl];simp only[F8,Aa,e0,Ia];exact⟨_,rfl,rfl,fin _ (by simp)<|d _ _ (by simp) enew⟩
     rw[Iz]at h2 h3 c⊢;simp only[AC,F9]at h2⊢;have ek:(((o.length+1:Nat):Int)-1)=(o.length:Int):=by omega
     rw[ek,Ah (by omega:¬(o.length:Int)<0),Ac (by omega:(o.length:Int)>=0)];simp only[Ak,Ad,F8,Aa];have hx:=h3 x (by simp);have e:=d (o++ [x]) _ h3 enew;have elast:ad (o.length:Int) 1=((o++ [x]).length:Int):=by rw[ad1];simp
     rcases hx with⟨x1,x2,x3,x4⟩|⟨x1,x2,x3,x4,x5⟩
     ·rw[x1];simp only[show((0:Int)==0)=true from rfl,Ak,show decide ((0:Int)>0)=false from rfl,Ad];rw[Bq];by_cases h31:(L x.Text).length<31
      ·rw[Ac (by omega:((L x.Text).length:Int)<31),Ah (by omega:¬((L x.Text).length:Int)>=31)];simp only[Ak,Ad,Aa,F8,ecat _ x4,Ia];simp only[x1];refine⟨_,rfl,rfl,fin _ (by simp;omega)<|d _ _ (λt ht=>h3 t<|by simp[ht])<|.inl ⟨rfl,x2,?_,?_⟩⟩
       ·grind [FC]
       grind [FC]
      rw[Ah (by omega:¬((L x.Text).length:Int)<31),Ac (by omega:((L x.Text).length:Int)>=31)];simp only[Ak,Ad,Aa,c,elast,F8,e0,Ia];exact⟨_,rfl,rfl,fin _ (by simp;omega) e⟩
     have hb:(x.Back==0)=false:=by simp;omega
     rw[hb,Ac (by omega:x.Back>0)];simp only[Ak,Ad,Aa,c,elast,F8,e0,Ia];exact⟨_,rfl,rfl,fin _ (by simp;omega) e⟩
    rw[Ac (by omega:(z:Int)>0),Ak,Ak,c];rw[Ca];refine⟨_,rfl,rfl,⟨a+z,by simp,by omega,by simp;omega,?_⟩,by simp only;omega⟩;intro t ht
    rcases A7.1 ht with ht|ht
    ·exact h3 t ht
    rw[Cb]at ht;subst ht;refine .inr ⟨?_,?_,?_,?_,by rfl⟩<;>simp only<;>omega
   grind) ((L s).length) ([],0) (by simp) ⟨0,rfl,by omega,by simp,by simp⟩
 grind
theorem Vm (l m:List Int):L (Gp (l++m))=L (Gp l)++L (Gp m):=by grind [LQ]
theorem OM (l:List Int):(L (Gp l)).length=l.length:=by rw[LQ,BG]
theorem oB (b:ByteArray):L (Gp (lM b))=L b:=by
 rw[LQ,lM,HI];have:((λn:Int=>UInt8.ofNat n.toNat)∘λc:UInt8=>(c.toNat:Int))=id:=by
  funext c;simp
 rw[this,Rw];rfl
theorem rP (l:List Int) (b:ByteArray):aps l b=ap 1 l (lM b):=by simp[lM,aps,ap]
theorem Za (b:ByteArray):(lM b).length=(L b).length:=by simp[lM,L]
theorem eV (s:ByteArray):∃z ok,DJ s=some (z,ok)/\Oi s=some (z,ok)/\(ok=false->z=bs [])/\(ok=true->(L s).length<=64/\((L z)[0]?=some 122\/(L z)[0]?=some 114)):=by
 unfold DJ Oi;rw[Bq];by_cases hs:(L s).length<=64
 ·rw[Ah (by omega:¬((L s).length:Int)>64),Ad,Ad];obtain⟨l,t1,t2,t3,t4⟩:=eJ s hs;rw[t1,t2];simp only[Aa];obtain⟨z,v,h1,h2,rfl,h3,h4⟩:=mK (body:=λq:ByteArray×Int=>DS l q.1 q.2) (body':=λq:List Int×Int=>JN l q.1 q.2) (λv i=>(Gp v,i)) (λv i=>(v,i)) l.length (λi v=>v.length<=1+33*i/\(L<|Gp v)[0]?=some 122) (λz v=>z=Gp v/\v.length<=4000/\(L<|Gp v)[0]?=some 122)
   (λv i hi hv=>by
    have hg:l[i]?=some l[i]:=Ab hi;have ht:=t4 _<|Ay hi;refine .inl ?_;simp only[DS,JN,Ms,Ac hi,Ak,Ar,hg,Aa]
    have b:∀(a:ByteArray) (m:List Int),(L a).length<=4000->m.length<=2->Qs a (Gp m)=some (a++Gp m):=λa m h1 h2=>FP _ _ (by rw[OM];omega)
    have h0:∀m:List Int,(L<|Gp<|v++m)[0]?=some 122:=λm=>by grind [Vm]
    rcases ht with⟨x1,x2,x3,x4⟩|⟨x1,x2,x3,x4,x5⟩
    ·rw[x1];simp only[show((0:Int)==0)=true from rfl,Ak,show decide ((0:Int)>0)=false from rfl,Ad];rw[b _ _ (by rw[OM];omega) (by simp),BL<|by grind];simp only[Aa];rw[FP _ _ (by grind [FC,OM]),rP,BL (by rw[Za];grind)]
     grind [ad1,IX,FC,Vm,oB,Za]
    have hb:(l[i].Back==0)=false:=by simp;omega
    rw[hb,Ac (by omega:l[i].Back>0)];simp only[Ak,Ad];rw[b _ _ (by rw[OM];omega) (by simp),BL<|by grind];simp only[Aa];rw[ad1<|by omega];refine⟨v++ [IntKind.u8.wrap<|ad 128 l[i].Size,IntKind.u8.wrap l[i].Back],?_,rfl,?_,h0 _⟩
    ·grind [IX,FC,Vm]
    grind)
   (λv hv=>⟨_,_,by grind [Ms,DS],by grind [Ms,JN],rfl,by omega,hv.2⟩) (s:=[122]) ⟨by simp,by rw[LQ];rfl⟩
  have e0:(Gp [122],(0:Int))=(bs [122],(0:Int)):=by rfl
  simp only[e0]at h1;rw[h1,h2];simp only[Aa];rw[Bq,OM,Bu,Ca (by omega)<|by omega];by_cases hc:((L s).length:Int)+1<=(v.length:Int)
  ·rw[Ac hc,Ak,FP _ _ (by rw[DL];grind)];refine⟨_,true,rfl,rfl,by simp,λ_=>⟨hs,.inr ?_⟩⟩;rfl
  simp_all [Ah]
 simp_all;grind
def OI (t:AL):Prop:=(t.Back=0/\t.Size=0/\1<=(L t.Text).length/\(L t.Text).length<=31)\/(t.Back≠0/\1<=t.Size/\t.Size<=31/\L t.Text=[])
theorem aQ:Qg=Fe:=by grind [dR,Wc,rP,Qg,Fe,Sp,D4,ln,So,Dg]
theorem Oz (l:List AL) (hl:l.length<=1048576):∃p ok,Fe l=some (p,ok)/\(ok=true->∀t∈l,OI t):=by
 unfold Fe;obtain⟨r,h1,h2⟩:=AD (body:=λq:List Int×Int=>D4 l q.1 q.2) (λ(o:List Int) i=>(o,i)) l.length (λi o=>o.length<=64/\∀(j:Nat) t,j<i->l[j]?=some t->OI t) (λr=>(∃o,r= .inl o/\∀t∈l,OI t)\/r= .inr (bs [],false))
  (λo i hi ho=>by
   have hg:l[i]?=some l[i]:=Ab hi;simp only[D4,EM hi,Ar,hg,Aa,Wc];have good:∀(o':List Int),OI l[i]->(∃s',(some (.inl o':(List Int)⊕(List Int×Int)⊕(List Int)⊕(ByteArray×Bool))).bind (Sum.elim (λj1=>cond (decide<|(ln j1)>64) (some<|.inr<|.inr (bs [],false))<|some<|.inl (j1,ad (i:Int) 1)) some)=some (.inl (s',((i+1:Nat):Int)))/\s'.length<=64/\∀(j:Nat) t,j<i+1->l[j]?=some t->OI t)\/∃b,(some (.inl o':(List Int)⊕(List Int×Int)⊕(List Int)⊕(ByteArray×Bool))).bind (Sum.elim (λj1=>cond (decide<|(ln j1)>64) (some<|.inr<|.inr (bs [],false))<|some<|.inl (j1,ad (i:Int) 1)) some)=some (.inr b)/\((∃o,b= .inl o/\∀t∈l,OI t)\/b= .inr (bs [],false)):=by grind [Bu,ad1]
   by_cases hb:l[i].Back=0
   ·rw[hb];rw[Bq];by_cases hx:(1<=(L l[i].Text).length/\(L l[i].Text).length<=31)/\l[i].Size=0
    ·obtain⟨⟨c,d⟩,a⟩:=hx;rw[Ac (by omega:(1:Int)<=((L l[i].Text).length:Int)),Ac (by omega:((L l[i].Text).length:Int)<=31),a];rw[BL (by rw[Za];omega)];exact good _<|.inl ⟨hb,a,c,d⟩
    grind
   have hb':(l[i].Back==0)=false:=by simpa using hb
   rw[hb'];rw[Bu,OT,DL];by_cases hx:(1<=l[i].Back/\l[i].Back<=(o.length:Int))/\(1<=l[i].Size/\l[i].Size<=31)/\L l[i].Text=[]
   ·obtain⟨⟨y1,y2⟩,⟨y3,y4⟩,y5⟩:=hx;rw[Ac y1,Ac y2,Ac y3,Ac y4,Ac y5];obtain⟨o',q1,q2⟩:=AD (body:=λq:List Int×Int=>Dg l[i] q.1 q.2) (λ(o:List Int) k=>(o,k)) l[i].Size.toNat (λk u=>u.length=o.length+k) (λ_=>True)
     (λu k hk hu=>by grind [BV,Bu,P6,BL,ad1,Dg])
     (λu hu=>⟨u,by grind [Dg],trivial⟩) (s:=o) (by omega)
    rw[q1];exact good _<|.inr ⟨hb,y3,y4,y5⟩
   grind)
  (λo ho=>⟨_,by simp[En,D4],.inl ⟨o,rfl,λt ht=>by
   obtain⟨j,hj,rfl⟩:=A5 ht
   simp_all⟩⟩) (s:=[]) ⟨by simp,λj t hj=>by omega⟩
 grind
theorem Uq (c:UInt8):IntKind.i64.wrap (c.toNat:Int)=(c.toNat:Int):=M8 (by omega) (by have:=c.toNat_lt;omega)
theorem XD (rem:ByteArray) (a:List AL) (h:0<(L rem).length) (ho:a.length<=1048576) (hr:(L rem).length<=1048576):
  Db rem a=some (if 128<=(L rem)[0].toNat/\2<=(L rem).length then .inl (rem.extract 2 (L rem).length,a++ [AL.mk (((L rem)[1]?.getD 0).toNat:Int) (((L rem)[0].toNat:Int)-128) (bs [])])
   else if(L rem)[0].toNat<128/\(L rem)[0].toNat<(L rem).length then .inl (rem.extract (1+(L rem)[0].toNat) (L rem).length,a++ [AL.mk 0 0 (rem.extract 1 (1+(L rem)[0].toNat))])
   else .inr (.inr ([],false))):=by
 have d:=(L rem)[0].toNat_lt;have b:seq rem (bs [])=false:=by grind [OT,DL]
 have c:∀x:AL,ap 32 a [x]=some (a++ [x]):=λx=>BL<|by grind
 unfold Db;rw[b];have s0:sx rem 0=some ((L rem)[0].toNat:Int):=DO rem (i:=0) h;simp only[DF,Ak,s0,Aa,Uq,Bq,c];have c0:ad 1 ((L rem)[0].toNat:Int)=((1+(L rem)[0].toNat:Nat):Int):=by rw[Ca];omega
 rw[c0];by_cases h1:128<=(L rem)[0].toNat
 ·rw[Ac (by omega:((L rem)[0].toNat:Int)>=128),Ah (by omega:¬((L rem)[0].toNat:Int)<128)];simp only[Ak,Ad,Aa];by_cases h2:2<=(L rem).length
  ·grind [DO,E6,BV,Uq,L,sub]
  grind
 rw[Ah (by omega:¬((L rem)[0].toNat:Int)>=128),Ac (by omega:((L rem)[0].toNat:Int)<128),BE λe=>h1 e.1];simp only[Ak,Ad,Aa];simp_all [L,sub];grind
theorem bD (rem:ByteArray) (a:List AL) (h:(L rem).length=0):Db rem a=some (.inr (.inl a)):=by grind [OT,DL,Db]
theorem XC (t:ByteArray) (b:List AL) (a:Nat) (h:a<(L t).length) (ho:b.length<=1048576) (hr:(L t).length<=1048576):
  B7 t b (a:Int)=some (if 128<(L t)[a].toNat then(if a+2<=(L t).length then .inl (b++ [AL.mk (((L t)[a+1]?.getD 0).toNat:Int) (((L t)[a].toNat:Int)-128) (bs [])],((a+2:Nat):Int))else .inr (.inr (b,false)))
   else if a+1+(L t)[a].toNat<=(L t).length then .inl (b++ [AL.mk 0 0 (t.extract (a+1) (a+1+(L t)[a].toNat))],((a+1+(L t)[a].toNat:Nat):Int))
   else .inr (.inr (b,false))):=by
 have d:=(L t)[a].toNat_lt
 have c:∀x:AL,ap 32 b [x]=some (b++ [x]):=λx=>BL<|by grind
 have c2:ad (a:Int) 2=((a+2:Nat):Int):=by rw[Ca];omega
 have c3:ad ((a+1:Nat):Int) ((L t)[a].toNat:Int)=((a+1+(L t)[a].toNat:Nat):Int):=by rw[Ca];omega
 unfold B7;rw[Bq,cT,DO t h];simp only[Aa,Uq,c];rw[c2,ad1,c3];by_cases h1:128<(L t)[a].toNat
 ·rw[cT,Cl h1];by_cases h2:a+2<=(L t).length
  ·rw[cF,Cl h2,DO t (by omega:a+1<(L t).length),BV]
   grind [Uq]
  grind
 rw[cF,BE h1];by_cases h2:a+1+(L t)[a].toNat<=(L t).length
 ·rw[Ah (by omega:¬((a+1+(L t)[a].toNat:Nat):Int)>((L t).length:Int)),Ad,Cl h2,E6 t (by omega) h2];rfl
 grind
theorem Vf (t:ByteArray) (b:List AL) (a:Nat) (h:(L t).length<=a):B7 t b (a:Int)=some (.inr (.inl b)):=by grind [Bq,B7]
theorem nX (rem:ByteArray) (a:List AL) (h:a.length+(L rem).length<=1048576):∃r,Aj (λq:ByteArray×List AL=>Db q.1 q.2) (rem,a)=some r/\((∃l,r= .inl l/\l.length<=1048576/\∀t∈a,t∈l)\/r= .inr ([],false)):=by
 obtain⟨r,h1,_,h2⟩:=PZ (body:=λq:ByteArray×List AL=>Db q.1 q.2) (body':=λq:ByteArray×List AL=>Db q.1 q.2) (λq=>(L q.1).length) (λq=>q.2.length+(L q.1).length<=1048576/\∀t∈a,t∈q.2) (λr=>(∃l,r= .inl l/\l.length<=1048576/\∀t∈a,t∈l)\/r= .inr ([],false))
  (by grind [bD,XD,Iv]) _ (rem,a) (A8 _) ⟨h,λt ht=>ht⟩
 grind
theorem nW (t:ByteArray) (b:List AL) (a:Nat) (ha:a<=(L t).length) (h:b.length<=a) (hr:(L t).length<=1048576):∃r,Aj (λq:List AL×Int=>B7 t q.1 q.2) (b,(a:Int))=some r/\((∃l,r= .inl l/\l.length<=1048576/\∀x∈b,x∈l)\/∃l,r= .inr (l,false)/\l.length<=1048576):=by
 obtain⟨r,h1,_,h2⟩:=PZ (body:=λq:List AL×Int=>B7 t q.1 q.2) (body':=λq:List AL×Int=>B7 t q.1 q.2) (λq=>(L t).length-q.2.toNat) (λq=>∃a:Nat,q.2=(a:Int)/\a<=(L t).length/\q.1.length<=a/\∀x∈b,x∈q.1) (λr=>(∃l,r= .inl l/\l.length<=1048576/\∀x∈b,x∈l)\/∃l,r= .inr (l,false)/\l.length<=1048576)
  (by
   rintro⟨o,at_⟩ ⟨a,ha,hl,hb,ho⟩;simp only at ha hb ho;subst ha;simp only
   rcases Gh a (L t).length with h0|h0
   ·rw[XC t o a h0 (by omega) hr];split
    ·split
     ·simp_all;grind
     grind
    split
    ·simp_all;grind
    grind
   grind [Vf]) _ (b,(a:Int)) (A8 _) ⟨a,rfl,ha,h,λt ht=>ht⟩
 grind
theorem nV (t:ByteArray) (hr:(L t).length<=1048576):∀(n a:Nat) (rem:ByteArray) (b:List AL),(L t).length-a<=n->a<=(L t).length->L rem=(L t).drop a->b.length<=a->
  ∃ri rs,Aj (λq:ByteArray×List AL=>Db q.1 q.2) (rem,b)=some ri/\Aj (λq:List AL×Int=>B7 t q.1 q.2) (b,(a:Int))=some rs/\
   ((∃l,ri= .inl l/\rs= .inl l/\l.length<=1048576)\/((ri= .inr ([],false)\/∃l,ri= .inl l/\l.length<=1048576/\∃x∈l,¬OI x)/\((∃l,rs= .inr (l,false)/\l.length<=1048576)\/∃l,rs= .inl l/\l.length<=1048576/\∃x∈l,¬OI x))):=by
 intro n
 induction n with
 |zero=>grind [Az,bD,Vf]
 |succ n ih=>
  intro a rem b h1 h2 h3 h4
  rcases Gh a (L t).length with h0|h0
  ·have j:(L rem).length=(L t).length-a:=by rw[h3];simp
   have e:0<(L rem).length:=by omega
   have g:(L rem)[0]=(L t)[a]:=by grind
   have h:(L rem)[1]?.getD 0=(L t)[a+1]?.getD 0:=by grind
   have c:=XD rem b e (by omega) (by omega);have f:=XC t b a h0 (by omega) hr
   have d:∀k,L (rem.extract k (L rem).length)=(L t).drop (a+k):=λk=>by grind [Iv,DE,AS]
   rw[g,h]at c
   rcases Rv (L t)[a].toNat 128 with hc|hc|hc
   ·rw[BE<|by omega]at c;by_cases hk:a+1+(L t)[a].toNat<=(L t).length
    ·obtain⟨ri,rs,q1,q2,q3⟩:=ih (a+1+(L t)[a].toNat) (rem.extract (1+(L t)[a].toNat) (L rem).length) (b++ [AL.mk 0 0<|t.extract (a+1)<|a+1+(L t)[a].toNat]) (by omega) hk (by grind) (by grind);have etx:rem.extract 1 (1+(L t)[a].toNat)=t.extract (a+1) (a+1+(L t)[a].toNat):=by grind [IX,Iv,DE]
     refine⟨ri,rs,?_,?_,q3⟩
     ·rw[Az]
      grind
     grind [Az]
    grind [Az]
   ·
    have hI:∃ri,Aj (λq:ByteArray×List AL=>Db q.1 q.2) (rem,b)=some ri/\(ri= .inr ([],false)\/∃l,ri= .inl l/\l.length<=1048576/\∃x∈l,¬OI x):=by
     by_cases hk:2<=(L rem).length
     ·obtain⟨r,q1,q2⟩:=nX (rem.extract 2 (L rem).length) (b++ [AL.mk (((L t)[a+1]?.getD 0).toNat:Int) (((L t)[a].toNat:Int)-128)<|bs []]) (by grind);refine⟨r,by rw[Az];grind,?_⟩
      rcases q2 with⟨l,rfl,q3,q4⟩|rfl
      ·refine .inr ⟨l,rfl,q3,_,q4 _<|BA _<|Cb.2 rfl,?_⟩;intro hk
       rcases hk with⟨_,_,k3,_⟩|⟨_,k2,_⟩
       ·grind [DL]
       grind
      exact .inl rfl
     grind [Az]
    have hS:∃rs,Aj (λq:List AL×Int=>B7 t q.1 q.2) (b,(a:Int))=some rs/\((∃l,rs= .inr (l,false)/\l.length<=1048576)\/∃l,rs= .inl l/\l.length<=1048576/\∃x∈l,¬OI x):=by
     by_cases hk:a+1+(L t)[a].toNat<=(L t).length
     ·obtain⟨r,q1,q2⟩:=nW t (b++ [AL.mk 0 0<|t.extract (a+1)<|a+1+(L t)[a].toNat]) (a+1+(L t)[a].toNat) hk (by grind) hr;refine⟨r,by rw[Az];grind,?_⟩
      rcases q2 with⟨l,rfl,q3,q4⟩|⟨l,rfl,q3⟩
      ·refine .inr ⟨l,rfl,q3,_,q4 _<|BA _<|Cb.2 rfl,?_⟩;intro i
       rcases i with⟨_,_,_,k4⟩|⟨k1,_⟩
       ·simp only[Iv,J5,Nj]at k4;omega
       exact k1 rfl
      grind
     grind [Az]
    obtain⟨ri,q1,q2⟩:=hI;obtain⟨rs,q3,q4⟩:=hS;exact⟨ri,rs,q1,q3,.inr ⟨q2,q4⟩⟩
   by_cases hk:a+2<=(L t).length
   ·obtain⟨ri,rs,q1,q2,q3⟩:=ih (a+2) (rem.extract 2 (L rem).length) (b++ [AL.mk (((L t)[a+1]?.getD 0).toNat:Int) (((L t)[a].toNat:Int)-128)<|bs []]) (by omega) hk (d 2) (by grind);exact⟨ri,rs,by rw[Az];grind,by rw[Az];grind,q3⟩
   grind [Az]
  grind [Az,Vf]
theorem pB (t:ByteArray) (hr:(L t).length<=1048576):∃li oi ls os pi ki ps ks,Re t=some (li,oi)/\JX t=some (ls,os)/\Qg li=some (pi,ki)/\Fe ls=some (ps,ks)/\((oi=os/\pi=ps/\ki=ks)\/((oi=false\/ki=false)/\(os=false\/ks=false))):=by
 obtain⟨ri,rs,q1,q2,q3⟩:=nV t hr ((L t).length) 0 t [] (by omega) (by omega) (by simp) (by simp);have e0:(([]:List AL),((0:Nat):Int))=([],0):=rfl;simp only[e0]at q2;unfold Re JX;rw[q1,q2,aQ];have none:∀l:List AL,l.length<=1048576->(∃x∈l,¬OI x)->∃p,Fe l=some (p,false):=by
  rintro l hl ⟨x,hx,hn⟩;obtain⟨p,ok,h1,h2⟩:=Oz l hl
  cases ok with
  |false=>exact⟨p,h1⟩
  |true=>grind
 rcases q3 with⟨l,rfl,rfl,hl⟩|⟨hi,hs⟩
 ·obtain⟨p,ok,h1,_⟩:=Oz l hl;exact⟨l,true,l,true,p,ok,p,ok,rfl,rfl,h1,h1,.inl ⟨rfl,rfl,rfl⟩⟩
 have hI:∃li oi pi ki,(some ri).bind (Sum.elim (λv1=>some (v1,true)) some)=some (li,oi)/\Fe li=some (pi,ki)/\(oi=false\/ki=false):=by
  rcases hi with rfl|⟨l,rfl,hl,hb⟩
  ·obtain⟨p,ok,h1,_⟩:=Oz [] (by simp)
   grind
  obtain⟨p,h1⟩:=none l hl hb;simp_all
 have hS:∃li oi pi ki,(some rs).bind (Sum.elim (λv1=>some (v1,true)) some)=some (li,oi)/\Fe li=some (pi,ki)/\(oi=false\/ki=false):=by grind [Oz]
 obtain⟨li,oi,pi,ki,a1,a2,a3⟩:=hI;obtain⟨ls,os,ps,ks,b1,b2,b3⟩:=hS;exact⟨li,oi,ls,os,pi,ki,ps,ks,a1,b1,a2,b2,.inr ⟨a3,b3⟩⟩
theorem Xz (t:ByteArray) (hr:(L t).length<=1048576):∃u ok,ED t=some (u,ok)/\Sn t=some (u,ok)/\(ok=false->u=bs [])/\(ok=true->(L u).length<=64):=by
 unfold ED Sn;rw[Bq,OT,DL];by_cases h0:L t=[]
 ·simp_all
 have a:0<(L t).length:=by grind
 have e1:(((L t).length:Int)==0)=false:=by simp;exact h0
 rw[e1,Ah h0,Ad,Ad];have s1:sub t 1 ((L t).length:Int)=some (t.extract 1 (L t).length):=E6 t (i:=1) (by omega)<|A8 _;have s0:sx t 0=some ((L t)[0].toNat:Int):=DO t (i:=0) a;rw[s1,s0];simp only[Aa];generalize hx:t.extract 1 (L t).length=x;have b:(L x).length<=1048576:=by grind [Iv]
 obtain⟨li,oi,ls,os,pi,ki,ps,ks,a1,a2,a3,a4,a5⟩:=pB x b;rw[a1,a2];simp only[Aa];rw[a3,a4];simp only[Aa];have back:∀j:ByteArray,∃u ok,((DJ j).bind λv3=>(cond (!v3.2) (some true) (some<|!(seq v3.1 t)):Option Bool).bind λj2=>cond j2 (some (bs [],false)) (some (j,true)):Option (ByteArray×Bool))=some (u,ok)/\
   ((Oi j).bind λv3=>(cond (!v3.2) (some true) (some<|!(seq v3.1 t)):Option Bool).bind λj2=>cond j2 (some (bs [],false)) (some (j,true)):Option (ByteArray×Bool))=some (u,ok)/\(ok=false->u=bs [])/\(ok=true->(L u).length<=64/\((L t)[0].toNat=122\/(L t)[0].toNat=114)):=by
  intro j;obtain⟨z,ok,p1,p2,p3,p4⟩:=eV j;rw[p1,p2];simp only[Aa]
  cases ok with
  |false=>simp
  |true=>
   simp only[Av,Ad,Aa]
   cases hz:seq z t with
   |false=>simp
   |true=>
    have c:z=t:=by grind [Lr]
    obtain⟨p5,p6⟩:=p4 rfl;refine⟨_,true,rfl,rfl,by simp,λ_=>⟨p5,?_⟩⟩;rw[c,Ab a]at p6
    rcases p6 with p6|p6
    ·simp_all
    simp_all
 by_cases h122:(L t)[0].toNat=122
 ·have c1:((((L t)[0].toNat:Nat):Int)==122)=true:=by simp[h122]
  have c2:((((L t)[0].toNat:Nat):Int) !=114)=true:=by simp[h122]
  rw[c1,c2];simp only[Ak]
  rcases a5 with⟨rfl,rfl,rfl⟩|⟨hi,hs⟩
  ·cases oi with
   |false=>simp
   |true=>
    cases ki with
    |false=>simp
    |true=>simp_all
  grind
 have c1:((((L t)[0].toNat:Nat):Int)==122)=false:=by simp;omega
 rw[c1];simp only[Ad,Aa,Ei];by_cases h114:(L t)[0].toNat=114
 ·simp_all
 have c2:((((L t)[0].toNat:Nat):Int) !=114)=true:=by simp;omega
 rw[c2];simp only[Ak];have nope:∀(j u:ByteArray) (ok:Bool),(ok=true->(L u).length<=64/\((L t)[0].toNat=122\/(L t)[0].toNat=114))->ok=false:=by grind
 obtain⟨u,ok,b1,b2,b3,b4⟩:=back x;have k1:=nope x u ok b4;subst k1;have k2:=b3 rfl;subst k2;refine⟨bs [],false,b1,?_,by simp,by simp⟩
 cases oi with
 |false=>rfl
 |true=>
  cases ki with
  |false=>rfl
  |true=>
   simp only[Av,Ad,Aa,Ei];obtain⟨u,ok,d1,d2,d3,d4⟩:=back pi
   grind
def Pv (x:Leaf):Nat:=bif x.Is==0 then 1 else 0
theorem rM (l:List Leaf):(l.map Pv).sum<=l.length:=by
 induction l with
 |nil=>simp
 |cons x l ih=>grind [Pv]
theorem YE (b:Block) (h:b.Leaves.length<=1048576):MX b=some ((b.Leaves.map Pv).sum:Int):=by
 unfold MX;obtain⟨v,h1,rfl⟩:=AD (body:=λs:Int×Int=>GP b s.1 s.2) (λ(s:Int) i=>(s,i)) b.Leaves.length (λk s=>s=(((b.Leaves.take k).map Pv).sum:Nat)) (λv=>v=((b.Leaves.map Pv).sum:Nat))
  (λs k hk hs=>by
   have hx:b.Leaves[k]?=some b.Leaves[k]:=Ab hk;have e:=OL Pv b.Leaves k hk;have e2:=Mb Pv b.Leaves<|k+1;have e3:=rM b.Leaves;refine .inl ?_;simp only[GP,EM hk,Ar,hx,Aa]
   grind [Ca,Pv])
  (λs hs=>⟨s,by simp[En,GP],by grind⟩) (s:=0) (by simp)
 rw[h1];rfl
theorem nI (f:Flash) (hf:Xt f) (hn:nl f.Blocks<=1048576):∃v:Int,Lz f=some v/\dH f=some v/\0<=v/\v<=nl f.Blocks:=by
 unfold Lz dH;obtain⟨v,h1,h2,h3⟩:=Sc (body:=λs:Int×Int=>Kb f s.1 s.2) (body':=λs:Int×Int=>Mx f s.1 s.2) (λ(s:Int) i=>(s,i)) (λ(s:Int) i=>(s,i)) f.Blocks.length (λi n=>0<=n/\n<=(((f.Blocks.take i).map λb=>b.Leaves.length).sum:Nat)) (λv=>0<=v/\v<=nl f.Blocks)
  (λn i hi hs=>by
   have hb:f.Blocks[i]?=some f.Blocks[i]:=Ab hi;have hm:f.Blocks[i]∈f.Blocks:=Ay _;have d:=OL (λb:Block=>b.Leaves.length) f.Blocks i hi;have g:=Mb (λb:Block=>b.Leaves.length) f.Blocks<|i+1;unfold nl at hn;have h:=hf.1;have c:=hf.2 _ hm;have j:=rM f.Blocks[i].Leaves;refine .inl ?_;simp only[Kb,Mx,EM hi,Ar,hb,Aa,YE _ c];obtain⟨u,q1,rfl⟩:=AD (body:=λs:Int×Int=>Ka f (i:Int) s.1 s.2) (λ(s:Int) i=>(s,i)) f.Blocks[i].Leaves.length (λk s=>s=n+(bif f.Blocks[i].Bad then 0 else((f.Blocks[i].Leaves.take k).map Pv).sum:Nat)) (λv=>v=n+(bif f.Blocks[i].Bad then 0 else(f.Blocks[i].Leaves.map Pv).sum:Nat))
    (λs k hk hs=>by
     have hx:f.Blocks[i].Leaves[k]?=some f.Blocks[i].Leaves[k]:=Ab hk;have e:=OL Pv f.Blocks[i].Leaves k hk;have e2:=Mb Pv f.Blocks[i].Leaves<|k+1;refine .inl ?_;simp only[Ka,Ar,hb,Aa,EM hk,hx]
     cases a:f.Blocks[i].Bad with
     |true=>
      rw[a]at hs;simp only[Av,Ad,Ak]at hs⊢;rw[ad1]
      grind
     |false=>
      rw[a]at hs;simp only[DF,Ad,Ak]at hs⊢;have e4:Pv f.Blocks[i].Leaves[k]=bif f.Blocks[i].Leaves[k].Is==0 then 1 else 0:=rfl
      cases hb:f.Blocks[i].Leaves[k].Is==0 with
      |true=>
       rw[hb]at e4;simp only[Ak]at e4⊢;rw[ad1,Ca]
       grind
      |false=>
       rw[hb]at e4;simp only[Ad]at e4⊢;rw[ad1]
       grind)
    (λs hs=>⟨s,by simp_all [Ar,En,Ka],by grind⟩) (s:=n) (by grind)
   rw[q1];simp only[Aa]
   cases f.Blocks[i].Bad with
   |true=>
    simp only[Ak,Av,Ad];rw[ad1]
    grind
   |false=>
    simp only[Ak,DF,Ad];rw[ad1,Ca]
    grind)
  (λn hs=>by
   rw[Hq]at hs
   exact⟨n,by simp[En,Kb],by simp[En,Mx],hs⟩) (s:=0) (by simp)
 grind
def iE (a:Arena):Prop:=a.Knots.length<=1048576
theorem kP (x a b:Int):Bw x a b=some (decide (a<=x/\x<=b)):=by
 rw[Wc];simp
theorem S9 (a:Arena):Ho a=Fj a:=by
 unfold Ho Fj
 grind [dR,On,D6,gi,Om,DP]
def Pt (a:Arena) (i:Nat) (k:Bk) (n:Int):Prop:=if k.Leaf=true then 0<=n else n= -1\/(0<=n/\n<i/\∃k',gi a.Knots n=some k'/\k'.Leaf=true)
theorem i8 (a:Arena) (ha:iE a):∃v,Fj a=some v/\(v=true->∀(i:Nat) k,a.Knots[i]?=some k->k.Kids.length=4/\∀n∈k.Kids,Pt a i k n):=by
 unfold iE at ha;unfold Fj;obtain⟨r,h1,h2⟩:=AD (body:=λs:Int=>D6 a s) (λ(_:Unit) i=>i) a.Knots.length (λi _=>∀(j:Nat) k,j<i->a.Knots[j]?=some k->k.Kids.length=4/\∀n∈k.Kids,Pt a j k n) (λr=>r= .inr false\/r= .inl ()/\∀(i:Nat) k,a.Knots[i]?=some k->k.Kids.length=4/\∀n∈k.Kids,Pt a i k n)
  (λ_ i hi hs=>by
   obtain⟨k,hk⟩:∃k,a.Knots[i]?=some k:=⟨_,Ab hi⟩;simp only[D6,EM hi,Ar,hk,Aa];by_cases h4:k.Kids.length=4
   ·have e1:(ln k.Kids !=4)=false:=by simp[ln,h4]
    simp only[e1,Ad];obtain⟨r,q1,q2⟩:=AD (body:=λs:Int=>DP a (i:Int) k s) (λ(_:Unit) j=>j) 4 (λj _=>∀(m:Nat) n,m<j->k.Kids[m]?=some n->Pt a i k n) (λr=>r= .inr (.inr<|.inr false)\/r= .inl ()/\∀n∈k.Kids,Pt a i k n)
     (λ_ j hj b=>by
      obtain⟨n,hn⟩:∃n,k.Kids[j]?=some n:=⟨_,Ab<|by omega⟩;simp only[DP];rw[cT,Ar,hn];simp only[Aa]
      have good:Pt a i k n->(∃s':Unit,(cond false (some<|.inr<|.inr<|.inr<|.inr false) (some<|.inl<|ad (j:Int) 1):Option (Int⊕Unit⊕Int⊕Unit⊕Bool))=some (.inl ((j+1:Nat):Int))/\∀(m:Nat) n,m<j+1->k.Kids[m]?=some n->Pt a i k n):=λc=>by
       refine⟨(),by rw[Ad,ad1],λm n' hm d=>?_⟩
       grind
      cases hl:k.Leaf with
      |true=>
       simp only[Ak,Av,Ad];by_cases h0:n<0
       ·grind
       rw[Ah h0,Ad];exact .inl<|good<|by grind [Pt]
      |false=>
       by_cases h1:n= -1
       ·have:(n != -1)=false:=by simp[h1]
        rw[this];exact .inl<|good (by unfold Pt;grind)
       have:(n != -1)=true:=by simp[h1]
       rw[this];rw[BV,kP];simp only[Aa];by_cases h2:0<=n/\n<=(i:Int)-1
       ·rw[Ac h2];rw[P6 h2.1<|by omega];simp only[Aa]
        cases e:(a.Knots[n.toNat]'(by omega)).Leaf with
        |true=>
         refine .inl<|good ?_
         grind [P6,Pt]
        |false=>grind
       grind)
     (λ_ b=>⟨_,by rfl,.inr ⟨rfl,λn hn=>by
      obtain⟨m,hm,rfl⟩:=A5 hn
      simp_all;grind⟩⟩) (s:=()) (λm n hm=>by omega)
    have q1':Aj (λs:Int=>DP a (i:Int) k s) 0=some r:=q1;rw[q1']
    rcases q2 with rfl|⟨rfl,q2⟩
    ·grind
    rw[ad1];refine .inl ⟨(),rfl,λj k' hj f=>?_⟩
    grind
   grind [ln])
  (λ_ hs=>⟨_,by simp[En,D6],.inr ⟨rfl,λi k hk=>hs i k (Af.1 hk).1 hk⟩⟩) (s:=()) (λj k hj=>by omega)
 have h1':Aj (λs:Int=>D6 a s) 0=some r:=h1;rw[h1']
 rcases h2 with rfl|⟨rfl,h2⟩
 ·simp
 exact⟨_,rfl,λ_=>h2⟩
theorem sD (a:Arena) (ha:iE a) (root:Int) (s:Nat) (hs:s<16):∃v,N9 a root (s:Int)=some v/\UJ a root (s:Int)=some v:=by
 have f:a.Knots.length<=1048576:=ha;obtain⟨ok,h1,h2⟩:=i8 a ha;unfold N9 UJ;rw[S9,h1,dR];simp only[Aa,kP];rw[Ac (by omega:(0:Int)<=(s:Int)/\(s:Int)<=15)];simp only[Av,Ad,Aa];have d:∃b,Fo a root=some b/\FY a root=some (b||root== -1)/\(b=true->0<=root/\∃k,gi a.Knots root=some k/\k.Leaf=false):=by
  unfold Fo FY;rw[dR,BV (by rw[Bu];omega) (by rw[Bu];omega),Bu,kP]
  grind [P6]
 obtain⟨b,r1,r2,r3⟩:=d;rw[r1,r2];simp only[Aa]
 cases ok with
 |false=>simp
 |true=>
  simp only[Av,Ad]
  cases b with
  |false=>simp_all [Lv];grind
  |true=>
   obtain⟨hr,k,hk,hl⟩:=r3 rfl;simp only[Bool.true_or,Av,Ad,Aa,Lv,Rf,hk];rw[cF];obtain⟨g1,g2⟩:=Cu hk;obtain⟨k4,kk⟩:=h2 rfl root.toNat k g2;have eq4:qu (s:Int) 4=((s/4:Nat):Int):=by grind [M8,qu]
   have em:Int.tmod (s:Int) 4=((s %4:Nat):Int):=rfl;rw[eq4,em,P6 (by omega)<|by omega];simp only[Aa,Cp];have e:k.Kids[s/4]'(by omega)∈k.Kids:=Ay _;have c:=kk _ e;unfold Pt at c;rw[BE (by rw[hl];simp)]at c
   rcases c with c|⟨c1,c2,k',c3,c4⟩
   ·simp_all
   rw[cF,c3];simp only[Aa];obtain⟨g3,g4⟩:=Cu c3;obtain⟨k4',_⟩:=h2 rfl _ k' g4;rw[P6 (by omega)<|by omega];simp
theorem e9 (a:Arena) (ha:iE a) (root:Int):∃l,HM a root=some l/\Qj a root=some l/\l.length=16:=by
 unfold HM Qj;obtain⟨l,h1,h2,h3⟩:=Sc (body:=λs:List Int×Int=>Js a root s.1 s.2) (body':=λs:List Int×Int=>Oo a root s.1 s.2) (λ(o:List Int) i=>(o,i)) (λ(o:List Int) i=>(o,i)) 16 (λi o=>o.length=i) (λo=>o.length=16)
  (λo i hi ho=>by
   obtain⟨v,g1,g2⟩:=sD a ha root i hi
   grind [BL,ad1,Js,Oo])
  (λo ho=>⟨o,by rfl,by rfl,ho⟩) (s:=[]) rfl
 grind
def ZZ:An:=An.mk 0 0<|Page.mk 0 0 0 0 0<|bs []
def LD (c:Int) (y:An):Bool:=y.Page.Kind==1&&y.Page.Tx==c
def uU (r:List An) (o:Option Nat):An:=match o with
 |some j=>r[j]?.getD ZZ
 |none=>ZZ
def cZ (c:Int) (r:List An) (n:Nat) (o:Option Nat):Prop:=match o with
 |none=>∀(k:Nat) y,k<n->r[k]?=some y->LD c y=false
 |some j=>j<n/\(∃y,r[j]?=some y/\LD c y=true)/\∀(k:Nat) y,j<k->k<n->r[k]?=some y->LD c y=false
theorem mJ (r:List An) (hr:r.length<=1048576) (c:Int):∃o,JU r c=some (uU r o,o.isSome)/\cZ c r r.length o:=by
 unfold JU;rw[BV (by rw[Bu];omega) (by rw[Bu];omega),Bu];obtain⟨b,h1,h2⟩:=AD (body:=λs:Int=>Gx r c s) (λ(_:Unit) i=>(r.length:Int)-1-i) r.length (λi _=>∀(k:Nat) y,r.length-i<=k->k<r.length->r[k]?=some y->LD c y=false) (λb=>(b= .inl ()/\cZ c r r.length none)\/∃j,b= .inr (uU r<|some j,true)/\cZ c r r.length (some j))
  (λ_ i hi hs=>by
   have e1:((r.length:Int)-1-(i:Int))=((r.length-1-i:Nat):Int):=by omega
   have a:r.length-1-i<r.length:=by omega
   have hg:r[r.length-1-i]?=some r[r.length-1-i]:=Ab a;simp only[Gx,e1];rw[cT];simp only[Ar,hg,Aa]
   have next:LD c r[r.length-1-i]=false->∃s':Unit,(some (.inl<|sb ((r.length-1-i:Nat):Int) 1):Option (Int⊕Unit⊕(An×Bool)))=some (.inl<|(r.length:Int)-1-((i+1:Nat):Int))/\∀(k:Nat) y,r.length-(i+1)<=k->k<r.length->r[k]?=some y->LD c y=false:=λd=>by
    refine⟨(),by grind [BV],λk y h1 h2 h3=>?_⟩
    grind
   cases hk:r[r.length-1-i].Page.Kind==1 with
   |false=>
    exact .inl<|next (by grind [LD])
   |true=>
    simp only[Ak,Aa]
    cases ht:r[r.length-1-i].Page.Tx==c with
    |false=>
     exact .inl<|next (by unfold LD;grind)
    |true=>
     refine .inr ⟨_,rfl,.inr ⟨r.length-1-i,?_,a,⟨_,hg,by grind [LD]⟩,λk y h1 h2 h3=>hs k y (by omega) h2 h3⟩⟩
     grind [uU])
  (λ_ hs=>⟨_,by grind [Gx],.inl ⟨rfl,λk y h1 h2=>hs k y (by omega) h1 h2⟩⟩) (s:=()) (λk y h1 h2=>by omega)
 have e0:((r.length:Int)-1-0)=(r.length:Int)-1:=by omega
 rw[e0]at h1;rw[h1]
 rcases h2 with⟨rfl,h2⟩|⟨j,rfl,h2⟩
 ·exact⟨none,rfl,h2⟩
 grind
theorem pC {y:An} (hT:∀b∈f.Blocks,∀x∈b.Leaves,(L x.Text).length<=1048576) (h:Pu f y):(L y.Page.Text).length<=90:=by
 obtain⟨b,x,h1,h2,_,h3⟩:=h;obtain⟨_,g1⟩:=Cu h1;obtain⟨_,g2⟩:=Cu h2;obtain⟨p,ok,k1,_,_,k2⟩:=It x.Text (by grind);rw[h3]at k1
 injection k1 with k1
 injection k1 with k1 k3
 have hp:=k2 k3.symm;obtain⟨v,q1,_,q2⟩:=Qw p
 grind [Bq]
structure vB (f:Flash) (r:List An):Prop where
 s:Fd f=some r
 i:Io f=some r
 len:r.length<=1048576
 page:∀y∈r,Pu f y
 text:∀y∈r,(L y.Page.Text).length<=90
 QA:QA Bm r
def asc (l:List Int):Prop:=l.Pairwise λx y=>x<y
theorem UR:∀{a b:List Int},asc a->asc b->(∀x,x∈a↔x∈b)->a=b
 |[],[],_,_,_=>rfl
 |[],y::b,_,_,h=>by grind [Fz]
 |x::a,[],_,_,h=>by grind [Fz]
 |x::a,y::b,ha,hb,h=>by
  obtain⟨a1,a2⟩:=C6.1 ha;obtain⟨b1,b2⟩:=C6.1 hb;have c:x=y:=by grind [Fz]
  subst c;congr 1
  refine UR a2 b2 λz=>⟨λhz=>?_,λhz=>?_⟩
  ·grind
  grind
def qO (l:List Int) (x:Int):List Int:=l.filter (λy=>decide<|y<x)++(if x>0 then [x]else [])++l.filter (λy=>decide<|y>x)
theorem Qm {body:List Int×Int->Option ((List Int×Int)⊕(List Int))} (l:List Int) (p:Int->Bool) (o:List Int) (hM:l.length+o.length<=1073741824) (hb:∀(u:List Int) (i:Nat) x,l[i]?=some x->u.length<=o.length+i->body (u,(i:Int))=(bif p x then((ap 8 u [x]).bind λc=>some (.inl (c,ad (i:Int) 1)))else some (.inl (u,ad (i:Int) 1)))) (he:∀u,body (u,(l.length:Int))=some (.inr u)):Aj body (o,0)=some (o++l.filter p):=by
 obtain⟨b,h1,rfl⟩:=AD (body:=body) (λ(u:List Int) i=>(u,i)) l.length (λi u=>u=o++(l.take i).filter p) (λu=>u=o++l.filter p)
  (λu i hi hu=>by
   have hg:l[i]?=some l[i]:=Ab hi;have a:u.length<=o.length+i:=by grind
   refine .inl ?_;rw[hb u i _ hg a];have et:l.take (i+1)=l.take i++ [l[i]]:=by simp
   cases hp:p l[i]with
   |true=>grind [BL,ad1]
   |false=>
    rw[ad1]
    grind)
  (λu hu=>⟨u,he u,by grind⟩) (s:=o) (by simp)
 exact h1
theorem yC (l:List Int) (x:Int) (hl:l.length<=33554432):Mf l x=some (qO l x):=by
 unfold Mf
 rw[Qm (body:=λs:List Int×Int=>G5 l x s.1 s.2) l (λy=>decide<|y<x) [] (by grind)
  (λu i y hy _=>by
   have hi:=(Af.1 hy).1
   simp_all [Ar,EM,G5])
  (λu=>by simp[En,G5])]
 simp only[Aa,A0]
 have step:∀o:List Int,o.length<=33554433->Aj (λs:List Int×Int=>EZ l x s.1 s.2) (o,0)=some (o++l.filter (λy=>decide<|y>x)):=λo ho=>
  Qm (body:=λs:List Int×Int=>EZ l x s.1 s.2) l (λy=>decide<|y>x) o (by omega)
   (λu i y hy _=>by
    have hi:=(Af.1 hy).1
    simp_all [Ar,EM,EZ])
   (λu=>by simp[En,EZ])
 grind [BL,qO]
theorem kN (hl:∀z∈l,0<z):y∈qO l x↔y∈l\/(y=x/\0<x):=by
 unfold qO
 grind
theorem kO (h:asc l):asc (qO l x):=by
 unfold qO asc;rw[Ba,Ba];refine⟨⟨List.Pairwise.filter _ h,?_,?_⟩,List.Pairwise.filter _ h,?_⟩
 ·split<;>simp
 ·grind
 grind
theorem Wb (l:List Int) (x:Int) (h:asc l):(qO l x).length<=l.length+1:=by
 have hd:(l.filter λy=>decide<|y<x).length+(l.filter λy=>decide<|y>x).length<=l.length:=by
  have e:∀l:List Int,(l.filter λy=>decide<|y<x).length+(l.filter λy=>decide<|y>x).length<=l.length:=by
   intro l
   induction l with
   |nil=>simp
   |cons z l ih=>grind
  exact e l
 unfold qO
 grind
noncomputable def ZC (s:Store) (n:Nat):List Int:=((s.Vols.take n).map λv=>(HM s.Arena v.Root).getD []).flatten
theorem mF (s:Store) (n:Nat) (h:n<s.Vols.length):ZC s (n+1)=ZC s n++(HM s.Arena s.Vols[n].Root).getD []:=by grind [Ag,ZC]
def gO (s:Store) (n:Nat) (l:List Int):Prop:=asc l/\∀x,x∈l↔x∈ZC s n/\0<x
theorem cC (s:Store) (hv:s.Vols.length<=1048576) (ha:iE s.Arena):∃l,Kf s=some l/\gO s s.Vols.length l/\l.length<=16777216:=by
 unfold Kf;obtain⟨l,h1,h2,h3⟩:=AD (body:=λq:List Int×Int=>Ke s q.1 q.2) (λ(o:List Int) i=>(o,i)) s.Vols.length (λi o=>gO s i o/\o.length<=16*i) (λo=>gO s s.Vols.length o/\o.length<=16777216)
  (λo i hi ho=>by
   have hg:s.Vols[i]?=some s.Vols[i]:=Ab hi;obtain⟨⟨b,c⟩,e⟩:=ho;obtain⟨a,a1,_,a2⟩:=e9 s.Arena ha s.Vols[i].Root;refine .inl ?_;simp only[Ke,EM hi,Ar,hg,Aa,a1];obtain⟨u,q1,⟨q2,q3⟩,q4⟩:=AD (body:=λq:List Int×Int=>Kd a q.1 q.2) (λ(u:List Int) k=>(u,k)) a.length (λk u=>(asc u/\∀x,x∈u↔(x∈ZC s i++a.take k)/\0<x)/\u.length<=o.length+k) (λu=>(asc u/\∀x,x∈u↔(x∈ZC s i++a)/\0<x)/\u.length<=o.length+a.length)
    (λu k hk hu=>by
     have d:a[k]?=some a[k]:=Ab hk;obtain⟨⟨f,g⟩,h⟩:=hu;refine .inl ?_;simp only[Kd,EM hk,Ar,d,Aa]
     grind [yC,ad1,kO,Wb,kN,Ag])
    (λu hu=>⟨u,by simp[En,Kd],by grind⟩) (s:=o) ⟨⟨b,λx=>by rw[c];simp⟩,by omega⟩
   rw[q1,Aa,ad1];refine⟨u,rfl,⟨q2,λx=>?_⟩,by omega⟩
   grind [mF])
  (λo ho=>⟨o,by simp[En,Ke],ho.1,by omega⟩) (s:=[]) ⟨⟨List.Pairwise.nil,λx=>by simp[ZC]⟩,by simp⟩
 grind
def uniq (l:List Int) (n:Nat):List Int:=((List.range n).filter λi=>i==0||l[i-1]?.getD 0 !=l[i]?.getD 0).map λi=>l[i]?.getD 0
theorem kQ (x a b:Int):HF x a b=some (decide (a<=x/\x<=b)):=by
 unfold HF
 grind
theorem S1 (b:Bool) (x y:α):(bif b then some x else some y)=some (bif b then x else y):=by cases b<;>rfl
def cn (n:Nat) (p:Nat->Bool):Nat:=((List.range n).filter p).length
theorem kY (n:Nat) (p:Nat->Bool):cn (n+1) p=cn n p+(bif p n then 1 else 0):=by grind [Do,cn]
theorem wJ (n:Nat) (p:Nat->Bool):cn n p<=n:=by
 have:=MG p<|List.range n;rw[E4]at this;exact this
theorem YB {body:Int×Int->Option ((Int×Int)⊕Int)} (n:Nat) (p:Nat->Bool) (n0:Int) (h0:0<=n0) (hM:(n:Int)+n0<=1152921504606846976) (hb:∀(m:Int) (i:Nat),i<n->body (m,(i:Int))=(bif p i then some (.inl (ad m 1,ad (i:Int) 1))else some (.inl (m,ad (i:Int) 1)))) (he:∀m,body (m,(n:Int))=some (.inr m)):Aj body (n0,0)=some (n0+(cn n p:Int)):=by
 obtain⟨b,h1,rfl⟩:=AD (body:=body) (λ(m:Int) i=>(m,i)) n (λi m=>m=n0+(cn i p:Int)) (λm=>m=n0+(cn n p:Int))
  (λm i hi hm=>by
   have hc:=wJ i p;refine .inl ?_;rw[hb m i hi]
   cases hp:p i with
   |true=>
    rw[Ca,ad1]
    grind [kY]
   |false=>
    rw[ad1]
    grind [kY])
  (λm hm=>⟨m,he m,hm⟩) (s:=n0) (by simp[cn])
 exact h1
theorem Y1 {body:List γ×Int->Option ((List γ×Int)⊕List γ)} (by_:Nat) (n:Nat) (p:Nat->Bool) (g:Nat->γ) (hM:n*by_<=140737488355328) (hn:n<=1152921504606846976) (hb:∀(u:List γ) (i:Nat),i<n->body (u,(i:Int))=(bif p i then((ap by_ u [g i]).bind λc=>some (.inl (c,ad (i:Int) 1)))else some (.inl (u,ad (i:Int) 1)))) (he:∀u,body (u,(n:Int))=some (.inr u)):Aj body ([],0)=some (((List.range n).filter p).map g):=by
 obtain⟨b,h1,rfl⟩:=AD (body:=body) (λ(u:List γ) i=>(u,i)) n (λi u=>u=((List.range i).filter p).map g) (λu=>u=((List.range n).filter p).map g)
  (λu i hi hu=>by
   refine .inl ?_;rw[hb u i hi]
   cases hp:p i with
   |true=>
    have:(u.length+ [g i].length)*by_<=n*by_:=BI _<|by grind
    grind [BL,ad1,Do]
   |false=>grind [ad1,Do])
  (λu hu=>⟨u,he u,hu⟩) (s:=[]) (by simp)
 exact h1
def bC (c:Int) (r:List An):Nat->Option Nat
 |0=>none
 |n+1=>bif LD c (r[n]?.getD ZZ)then some n else bC c r n
theorem Ve (c:Int) (r:List An):∀n,n<=r.length->cZ c r n (bC c r n)
 |0,_=>λk y hk=>by omega
 |n+1,hn=>by
  have hg:r[n]?=some r[n]:=Ab (by omega);have ih:=Ve c r n (by omega);unfold bC;rw[hg,Ft]
  cases hi:LD c r[n]with
  |true=>exact⟨by omega,⟨_,hg,hi⟩,λk y h1 h2=>by omega⟩
  |false=>
   cases ht:bC c r n with
   |none=>
    rw[ht]at ih;intro k y hk hy;by_cases e:k=n
    ·grind
    exact ih k y (by omega) hy
   |some j=>
    rw[ht]at ih;obtain⟨h1,h2,h3⟩:=ih;refine⟨by omega,h2,λk y hj hk hy=>?_⟩
    grind
def Gg (a:Int) (y:An):Bool:=y.Page.Kind==2&&decide (y.Page.Tx>=a)
def kE (r:List An) (a:List Bool) (c:Int):List Bool:=match bC c r r.length with
 |some i=>a.set i true
 |none=>a
theorem Yl {c:Int} (r:List An) (b:List Int) (hr:r.length<=1048576) (hc:b[k]?=some c) (a:List Bool) (ho:a.length=r.length):∀n,n<=r.length->
  Aj (λs:List Bool×Int=>Gy r b (k:Int) s.1 s.2) (a,(n:Int)-1)=some (match bC c r n with|some i=>a.set i true|none=>a)
 |0,_=>by
  rw[Az];rfl
 |n+1,hn=>by
  have hg:r[n]?=some r[n]:=Ab (by omega);have d:a[n]?=some a[n]:=Ab (by omega);have e:((n+1:Nat):Int)-1=(n:Int):=by omega
  have ht:bC c r (n+1)=bif LD c r[n]then some n else bC c r n:=by
   rw[bC,hg,Ft]
  have hj:(bif r[n].Page.Kind==1 then some (r[n].Page.Tx==c)else some false)=some (LD c r[n]):=by grind [LD]
  have hb:Gy r b (k:Int) a (n:Int)=some (bif LD c r[n]then .inl (a.set n true,-2)else .inl (a,(n:Int)-1)):=by
   simp only[Gy]
   grind [Ar,BV,CP]
  rw[e,Az];simp only[hb,ht]
  cases LD c r[n]with
  |true=>
   simp only[Ak];rw[Az];rfl
  |false=>exact Yl r b hr hc a ho n<|by omega
theorem kD (r:List An) (a:List Bool) (c:Int):(kE r a c).length=a.length:=by grind [kE]
theorem uA (r:List An) (a:List Bool) (c:Int) (j:Nat):(kE r a c)[j]?=a[j]?.map (λb=>b||(bC c r r.length==some j)):=by
 unfold kE
 cases bC c r r.length with
 |none=>simp
 |some i=>simp_all;grind
theorem cW (r:List An) (j:Nat):∀(a:List Int) (d:List Bool),(a.foldl (kE r) d)[j]?=d[j]?.map (λb=>b||a.any (λc=>bC c r r.length==some j))
 |[],d=>by simp
 |c::a,d=>by
  simp only[List.foldl_cons,List.any_cons];rw[cW r j a,uA];simp_all;grind
theorem dO (r:List An):∀(a:List Int) (b:List Bool),(a.foldl (kE r) b).length=b.length
 |[],b=>rfl
 |c::a,b=>by simp only[List.foldl_cons];rw[dO r a,kD]
theorem UF (r:List An) (d:List Int) (a:Int) (hr:r.length<=1048576) (hl:d.length<=16777216):G3 r d a=some (d.foldl (kE r) (r.map (Gg a))):=by
 unfold G3;have f:mk 1 false (ln r)=some (List.replicate r.length false):=by grind [Bu,mk]
 rw[f,Aa];obtain⟨u,h1,rfl⟩:=AD (body:=λs:List Bool×Int=>G0 r a s.1 s.2) (λ(u:List Bool) i=>(u,i)) r.length (λi u=>u=(r.take i).map (Gg a)++List.replicate (r.length-i) false) (λu=>u=r.map (Gg a))
  (λu i hi hu=>by
   have hg:r[i]?=some r[i]:=Ab hi;have e:r.length-i=(r.length-(i+1))+1:=by omega
   have et:(r.take<|i+1).map (Gg a)=(r.take i).map (Gg a)++ [Gg a r[i]]:=by grind [Ag]
   have g:gi u (i:Int)=some false:=by grind [uQ]
   have h:∀b,si u (i:Int) b=(r.take i).map (Gg a)++b::List.replicate (r.length-(i+1)) false:=λb=>by rw[hu];have:=tA ((r.take i).map<|Gg a) false b<|List.replicate (r.length-(i+1)) false;grind
   simp only[G0,EM hi];rw[Ar,hg,Aa,g]
   grind [ad1,Gg])
  (λu hu=>⟨u,by simp[En,G0],by rw[hu];simp⟩) (s:=List.replicate r.length false) (by simp)
 rw[h1,Aa];have h2:=NW (body:=λs:List Bool×Int=>Gz r d s.1 s.2) (λ(u:List Bool) i=>(u,i)) d (λu _ c=>(.inl (kE r u c):List Bool⊕List Bool)) (λu=>u) (λ_ u=>u.length=r.length)
  (λu i c hc hu=>by
   have hi:=(Af.1 hc).1;refine⟨?_,λu' hu'=>by grind [kD]⟩;simp only[Gz,EM hi];rw[show ln r=(r.length:Int)from rfl,BV,Yl r d hr hc u hu r.length<|A8 _,Aa,ad1]
   rfl)
  (λu hu=>by simp[En,Gz]) (s:=r.map<|Gg a) (by simp)
 rw[h2,Aa];have:∀(l:List Int) (i:Nat) (u:List Bool),O3 (λu _ c=>(.inl (kE r u c):List Bool⊕List Bool)) (λu=>u) l i u=l.foldl (kE r) u:=by
  intro l
  induction l with
  |nil=>intro i u;rfl
  |cons c l ih=>intro i u;exact ih _ _
 rw[this]
def bk (r:List An) (b:Int) (j:Nat):Bool:=(r[j]?.getD ZZ).Block==b
theorem pJ (r:List An) (nd:List Bool) (b:Int) (hr:r.length<=1048576) (hn:nd.length=r.length):PM r nd b=some ((cn r.length (λj=>nd[j]?.getD false&&bk r b j):Nat):Int):=by
 unfold PM
 rw[YB (body:=λs:Int×Int=>Ls r nd b s.1 s.2) r.length (λj=>nd[j]?.getD false&&bk r b j) 0 (by omega) (by omega)
  (λm i hi=>by simp_all [Ar,EM,Ls,bk];grind)
  (λm=>by simp[En,Ls])]
 simp
theorem rL (x:Block) (hl:x.Leaves.length<=1048576):∃n:Int,MX x=some n/\Nw x=some (!decide (n<ln x.Leaves)):=by
 have a:∀l:List Leaf,(cn l.length (λj=>(l[j]?.getD<|Leaf.mk 1<|bs []).Is==0)=l.length↔l.zipIdx.all (λz=>z.1.Is==0)=true):=by
  intro l;rw[List.all_eq_true];constructor
  ·grind [List.length_filter_eq_length_iff,cn]
  intro h;unfold cn;have:((List.range l.length).filter λj=>(l[j]?.getD<|Leaf.mk 1<|bs []).Is==0).length=(List.range l.length).length:=by
   refine List.length_filter_eq_length_iff.2 λi hi=>?_
   have hi:=X2.1 hi;rw[Ab hi,Ft];exact h (l[i],i)<|List.mem_zipIdx_iff_getElem?.2<|Ab hi
  grind
 refine⟨(cn x.Leaves.length (λj=>(x.Leaves[j]?.getD<|Leaf.mk 1<|bs []).Is==0):Nat),?_,?_⟩
 ·unfold MX
  rw[YB (body:=λq:Int×Int=>GP x q.1 q.2) x.Leaves.length (λj=>(x.Leaves[j]?.getD<|Leaf.mk 1<|bs []).Is==0) 0 (by omega) (by omega)
   (λm i hi=>by simp_all [Ar,EM,GP])
   (λm=>by simp[En,GP])]
  simp
 unfold Nw
 rw[VY (body:=λs:Int=>Hw x s) x.Leaves (λ_ y=>y.Is==0) (.inr false) (.inl ()) (by omega)
  (λi y hy=>by
   have hi:=(Af.1 hy).1;simp only[Hw,EM hi,Ar,hy,Aa]
   grind [ad1])
  (by simp[En,Hw])]
 have b:=wJ x.Leaves.length λj=>(x.Leaves[j]?.getD<|Leaf.mk 1<|bs []).Is==0
 cases hb:x.Leaves.zipIdx.all (λz=>z.1.Is==0)with
 |true=>grind [Bu]
 |false=>simp_all [Bu];grind
theorem aD:P1=DW:=rfl
def LN:List Leaf:=List.replicate 4<|Leaf.mk 0<|bs []
theorem Ym:mk 24 (Leaf.mk 0 (bs [])) 4=some LN:=VV (n:=4) (by omega)<|by omega
theorem CT (f:Flash) (h:Xt f):DW f=some f:=by
 unfold DW;have:=Sd (body:=λs:Int×List Block=>I6 f s.1 s.2) f.Blocks (λx=>x)
  (λi x a hx ho=>by
   have b:=(Af.1 hx).1;have h1:=h.1;have h2:=h.2 x<|Ao hx;unfold I6;simp only[EM b,Ar,hx,Aa]
   rw[BL (by grind),Aa,BL (by grind),Aa,ad1,A0])
  (λa=>by simp[En,I6])
 simp_all
def vM (f:Flash):Prop:=f.Blocks.length<=1048576/\∀b∈f.Blocks,b.Leaves.length=4
theorem vM.cap (h:vM f):Xt f:=⟨h.1,λb hb=>by rw[h.2 b hb];omega⟩
end Go.TI
