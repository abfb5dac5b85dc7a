/- A text that is written often is kept once. No condition; no program is in sight. -/
import Derived.Test.YtacibgiakaoomaaGreatOKD
set_option linter.unusedVariables false
set_option linter.unusedSimpArgs false
namespace Go.TI
open Go
def u32 (s:Int):Prop:=0<=s/\s<4294967296
theorem nZ (s:Int) (hs:u32 s):∃v,Ai (λs:Int×Int=>HF s.1 s.2) (s,0)=some v/\Ai (λs:Int×Int=>HO s.1 s.2) (s,0)=some v/\u32 v:=
 Hp (body:=λs:Int×Int=>HF s.1 s.2) (body':=λs:Int×Int=>HO s.1 s.2) (λ(s:Int) i=>(s,i)) 8 (λ_ s=>u32 s) u32
  (λs i hi hs=>by grind [an1,AB2,ad1,AAF,HF,HO,u32])
  (λs hs=>by grind [HF,HO]) (s:=s) hs
theorem nY (s:Int) (t:ByteArray) (hs:u32 s) (ht:(L t).length<=9223372036854775806):∃v,Rc s t=some v/\Ro s t=some v/\u32 v:=by
 obtain⟨v,h1,h2,h3⟩:=Hp (body:=λs:Int×Int=>Jo t s.1 s.2) (body':=λs:Int×Int=>J8 t s.1 s.2) (λ(s:Int) i=>(s,i)) (L t).length (λ_ s=>u32 s) u32
  (λs i hi hs=>by
   obtain⟨v,h1,h2,h3⟩:=nZ (xr s<|IntKind.u32.wrap ((L t)[i]).toNat)<|AAF _ _
   grind [Eg,ad1,Jo,J8])
  (λs hs=>by grind [Bh,Jo,J8]) (s:=s) hs
 unfold Rc Ro
 grind
theorem jU (t:ByteArray) (ht:(L t).length<=9223372036854775806):∃v,Nb t=some v/\Ws t=some v/\u32 v:=by
 obtain⟨v,h1,h2,h3⟩:=nY 4294967295 t ⟨by omega,by omega⟩ ht;unfold Nb Ws
 grind
def four (v:Int):ByteArray:=EC [IntKind.u8.wrap<|Int.fdiv v<|2^(min (24:Int).toNat IntKind.u32.bits),IntKind.u8.wrap<|Int.fdiv v<|2^(min (16:Int).toNat IntKind.u32.bits),IntKind.u8.wrap<|Int.fdiv v<|2^(min (8:Int).toNat IntKind.u32.bits),IntKind.u8.wrap v]
theorem XY (v:Int):(L (four v)).length=4:=by rfl
theorem bT (t:ByteArray):Hy t=Jq t:=by
 unfold Hy Jq;by_cases h:(Gq t)>20000
 ·grind
 rw[Bh]at h;obtain⟨v,h1,h2,_⟩:=jU t (by omega);rw[h1,h2];rfl
theorem R6 (t:ByteArray):(20000<(L t).length->Jq t=some (bs [],false))/\((L t).length<=20000->∃v,Nb t=some v/\Jq t=some (t++four v,true)):=by grind [Bh,jU,Fy,XY,Jq,Kf,four]
theorem jS (t:ByteArray) (ht:(L t).length<=9223372036854775806):∃u ok,Kg t=some (u,ok)/\OU t=some (u,ok)/\(ok=true->(L u).length<=20000/\∃v,Nb u=some v/\t=u++four v)/\(ok=false->u=bs []):=by
 unfold Kg OU;have e4:sb (Gq t) 4=((L t).length:Int)-4:=by rw[Bh,BC]
 rw[e4];by_cases h4:(L t).length<4
 ·simp_all [Bh];grind
 rw[Ah (by omega:¬((L t).length:Int)-4<0),Ah (by rw[Bh];omega:¬Gq t<4)];have en:((L t).length:Int)-4=(((L t).length-4:Nat):Int):=by omega
 rw[en,Bh];have b:sub t 0 (((L t).length-4:Nat):Int)=some (t.extract 0<|(L t).length-4):=FE t (i:=0) (by omega) (by omega);have a:sub t (((L t).length-4:Nat):Int) ((L t).length:Int)=some (t.extract ((L t).length-4) (L t).length):=FE t (by omega) (by omega);rw[b,a];simp only[Aa];have hu:(L<|t.extract 0<|(L t).length-4).length=(L t).length-4:=by rw[JL];simp
 obtain⟨k1,k2⟩:=R6<|t.extract 0<|(L t).length-4;rw[bT];by_cases hb:20000<(L t).length-4
 ·grind
 obtain⟨v,h1,h2⟩:=k2 (by omega);rw[Ah (by omega:¬(((L t).length-4:Nat):Int)>20000),h1,h2];have h3:Kf v=some (four v):=rfl;simp only[Ad,Aa,h3,Al];have c:seq (t.extract ((L t).length-4) (L t).length) (four v)=seq (t.extract 0 ((L t).length-4)++four v) t:=by
  rw[PA,PA,FZ,JL,JL,Bool.eq_iff_iff,Bf,Bf];have e1:List.take ((L t).length-((L t).length-4)) (List.drop ((L t).length-4)<|L t)=(L t).drop ((L t).length-4):=AP (by simp);have e2:List.take ((L t).length-4-0) (List.drop 0<|L t)=(L t).take ((L t).length-4):=by simp
  rw[e1,e2];constructor
  ·grind [Ca]
  grind
 grind [Kc]
theorem HJ (n:Nat) (h:n<=1099511627776):∃s,G5 (n:Int)=some s/\L s=BJ n:=by
 unfold G5;obtain⟨m,o,h1,h2,h3,h4⟩:=bG (body:=λs:Int×List Int=>Na s.1 s.2) (λ_ _=>rfl) n [] (by simpa using h);rw[h1,Aa];have:IntKind.u8.wrap (m:Int)=m:=by rw[IntKind.wrap_u8];omega
 rw[this,Bq (by grind),Aa]
 grind [MM]
def AAL (t:ByteArray) (at_:Int) (r:Int×Int×Bool):Prop:=(r.2.2=false/\r.1=0/\r.2.1=0)\/(r.2.2=true/\∃(a b n:Nat),at_=a/\r.2.1=b/\r.1=n/\a<b/\b<=(L t).length/\n<=1000000000/\BJ n=((L t).drop a).take (b-a))
theorem WI (l:List UInt8) (a k:Nat) (h:a+k<l.length):(l.drop a).take (k+1)=(l.drop a).take k++ [l[a+k]]:=by grind [Af]
theorem dD (k:Nat) (h:k<5):(128:Nat)^k<=268435456:=by
 have:k<=4:=by omega
 calc 128^k<=128^4:=Nat.pow_le_pow_right (by omega) this
  _=268435456:=by decide
theorem Wd:∀ds:List UInt8,ET ds<128^ds.length
 |[]=>by simp[ET]
 |d::ds=>by
  have:=Wd ds
  grind [ET]
theorem yR (x k:Nat) (hx:x<128) (hk:k<5):shl .i64 (x:Int) (ml 7 (k:Int))=some ((x*128^k:Nat):Int):=by
 have h7:ml 7 (k:Int)=((7*k:Nat):Int):=by grind [NT]
 unfold shl;rw[h7,Bc<|by omega];have e:(2:Int)^(min ((7*k:Nat):Int).toNat IntKind.i64.bits)=((128^k:Nat):Int):=by
  have hb:IntKind.i64.bits=64:=rfl;have h128:(128:Nat)^k=2^(7*k):=by rw[Nat.pow_mul]
  grind
 rw[e];have hp:=dD k hk;have hm:x*128^k<=128*268435456:=Zu (by omega) hp
 grind [NE]
theorem oP (x:Nat):Int.tmod (x:Int) 128=((x %128:Nat):Int):=rfl
theorem H7 (t:ByteArray) (at_:Int) (ht:(L t).length<=4611686018427387904) (v:oI at_):∃r,IM t at_=some r/\IV t at_=some r/\AAL t at_ r:=by
 have fails:∀(at_:Int),(at_<0\/((L t).length:Int)<=at_)->oI at_->IV t at_=some (0,0,false):=by grind [Au,Bh,BC,IV,Gy]
 by_cases w:0<=at_/\at_<(L t).length
 ·obtain⟨a,rfl⟩:=BK w.1;have y:∀(B1:Int×Int×Int->Option ((Int×Int×Int)⊕Unit⊕(Int×Int×Bool))) (B2:Int×Int->Option ((Int×Int)⊕Unit⊕(Int×Int×Bool))),(∀n sc i,B1 (n,sc,i)=CW t (a:Int) n sc i)->(∀n k,B2 (n,k)=Gy t (a:Int) n k)->∀(m k:Nat),k+m=5->a+k<=(L t).length->(∀d∈((L t).drop a).take k,128<=d.toNat)->
    ∃r,(Ai B1 (((ET (((L t).drop a).take k):Nat):Int),((128^k:Nat):Int),((a+k:Nat):Int))=some r/\Ai B2 (((ET (((L t).drop a).take k):Nat):Int),(k:Int))=some r)/\(r= .inl ()\/∃q,r= .inr q/\AAL t (a:Int) q):=by
   intro B1 B2 z h0 m
   induction m with
   |zero=>grind [Au,BL,CW,Gy]
   |succ m ih=>
    intro k hk h9 hd;rw[Au,Au B2];simp only[z,h0,CW,Gy];have j:k<5:=by omega
    rw[BL (b:=5) (by omega) (by omega),Ac (by omega:((a+k:Nat):Int)<(a:Int)+5),Ac (by omega:(k:Int)<5),Ac (by omega:(a:Int)>=0),Bh,BC];by_cases l:a+k<(L t).length
    ·rw[Ac (by omega:((a+k:Nat):Int)<((L t).length:Int)),Ac (by omega:(a:Int)<((L t).length:Int)-k)];have eak:ad (a:Int) (k:Int)=((a+k:Nat):Int):=by rw[BL];omega
     simp only[An,Aa,Eg t l,eak];have hx:=fV<|(L t)[a+k];have f:=WI (L t) a k l;have o:(((L t).drop a).take k).length=k:=by simp;omega
     have g:=MR (((L t).drop a).take k) [(L t)[a+k]];rw[<-f,o]at g;have h4:=Wd<|((L t).drop a).take k;rw[o]at h4;have hp:=dD k j;generalize a0:(L t)[a+k]=x at hx f g;simp only[ET,Nat.mul_zero,oC]at g;have hw:IntKind.i64.wrap (x.toNat:Int)=x.toNat:=NE (by omega) (by omega);have h7:x.toNat %128*128^k<=127*268435456:=Zu (by omega) hp;have emul:ml ((x.toNat %128:Nat):Int) ((128^k:Nat):Int)=((x.toNat %128*128^k:Nat):Int):=by grind [NT]
     have enew:ad (((ET (((L t).drop a).take k):Nat)):Int) ((x.toNat %128*128^k:Nat):Int)=((ET (((L t).drop a).take<|k+1):Nat):Int):=by grind [BL]
     rw[hw,oP,yR _ k (by omega) j];simp only[Aa,emul,enew];by_cases h:x.toNat<128
     ·rw[Ac (by omega:(x.toNat:Int)<128),Ah (by omega:¬(x.toNat:Int)>=128)];have ek1:ad ((a+k:Nat):Int) 1=((a+k+1:Nat):Int):=ad1 (by omega);have c:=bF (((L t).drop a).take k) x hd h;rw[<-f]at c;have h5:(((L t).drop a).take k≠ [])↔0<k:=by grind
      rw[h5]at c;have p:sub t (a:Int) ((a+k+1:Nat):Int)=some (t.extract a<|a+k+1):=FE t (by omega) (by omega);rw[ek1,p];by_cases h8:ET (((L t).drop a).take<|k+1)>1000000000
      ·rw[Ac (by omega:((ET (((L t).drop a).take<|k+1):Nat):Int)>1000000000)];refine⟨.inr (0,0,false),⟨rfl,?_⟩,.inr ⟨_,rfl,.inl ⟨rfl,rfl,rfl⟩⟩⟩
       grind
      rw[Ah (by omega:¬((ET (((L t).drop a).take<|k+1):Nat):Int)>1000000000)];obtain⟨s,h6,a1⟩:=HJ (ET<|((L t).drop a).take<|k+1) (by omega);simp only[Ad,Aa,h6];have u:seq s (t.extract a<|a+k+1)=decide (¬(x.toNat=0/\0<k)):=by grind [PA,JL]
      rw[u];by_cases hz:x.toNat=0/\0<k
      ·rw[Ah λe=>e hz];refine⟨.inr (0,0,false),⟨rfl,?_⟩,.inr ⟨_,rfl,.inl ⟨rfl,rfl,rfl⟩⟩⟩
       grind
      rw[Ac hz];refine⟨.inr (((ET (((L t).drop a).take<|k+1):Nat):Int),((a+k+1:Nat):Int),true),⟨rfl,?_⟩,.inr ⟨_,rfl,.inr ⟨rfl,a,a+k+1,_,rfl,rfl,rfl,by omega,by omega,by omega,?_⟩⟩⟩
      ·grind
      grind
     rw[Ah (by omega:¬(x.toNat:Int)<128),Ac (by omega:(x.toNat:Int)>=128)];have e1:ml ((128^k:Nat):Int) 128=((128^(k+1):Nat):Int):=by grind [NT]
     have e2:ad ((a+k:Nat):Int) 1=((a+(k+1):Nat):Int):=ad1 (by omega);have e3:ad (k:Int) 1=((k+1:Nat):Int):=ad1 (by omega);rw[e1,e2,e3];exact ih (k+1) (by omega) (by omega)<|by grind
    grind
  obtain⟨r,⟨h1,h2⟩,h3⟩:=y (λs=>CW t (a:Int) s.1 s.2.1 s.2.2) (λs=>Gy t (a:Int) s.1 s.2) (λ_ _ _=>rfl) (λ_ _=>rfl) 5 0 rfl (by omega) (by simp);unfold IM IV;have hw:Bx (a:Int) 0 (Gq t)=some true:=by grind [Bh,Bx]
  rw[hw];simp only[Zv,ET,Nat.pow_zero,oC]at h1 h2;rw[show((0:Nat):Int)=0 from rfl,show((1:Nat):Int)=1 from rfl]at h1;rw[show((0:Nat):Int)=0 from rfl]at h2;rw[h1,h2]
  rcases h3 with rfl|⟨q,rfl,h3⟩
  ·exact⟨_,rfl,rfl,.inl ⟨rfl,rfl,rfl⟩⟩
  grind
 have hf:=fails at_ (by omega) v;refine⟨(0,0,false),?_,hf,.inl ⟨rfl,rfl,rfl⟩⟩;unfold IM
 grind [Bh,Au,Bx,CW]
theorem Yg:FB=Bx:=rfl
variable {r n x:Int} {R:List Int} {i j k:Nat} {s:Store} {α γ:Type} {v:Vol} {p:Nat->Bool} {y:Aj} {f:Flash} {l:List α}
theorem Cp {i:Int} {x:α} (h:gi l i=some x):0<=i/\l[i.toNat]?=some x:=by grind [gi]
theorem Ps:Mb=EN:=by
 have h2:LL=DC:=by
  funext x y;unfold LL DC
  cases decide (y<ln x.Leaves)with
  |false=>rfl
  |true=>
   cases gi x.Leaves y with
   |none=>rfl
   |some z=>rfl
 funext f;unfold Mb EN;have:LM f=DD f:=by
  funext i;unfold LM DD;rw[h2];rfl
 rw[this];rfl
def IB (f:Flash):Prop:=f.Blocks.length<=1048576/\∀b∈f.Blocks,b.Leaves.length<=1048576
theorem PF (x a b:Int):Bx x a b=some (decide (a<=x)&&decide (x<=b)):=by
 unfold Bx
 grind
theorem zQ (x:Leaf):∃v,LT x=some v:=by
 unfold LT;cases x.Is==0
 ·cases x.Is==1
  ·cases x.Is==2<;>exact⟨_,rfl⟩
  simp[PF]
 exact⟨_,rfl⟩
theorem S9 (f:Flash) (h:IB f):∃v,EN f=some v/\(v=true->f.Blocks.length<=10/\∀b∈f.Blocks,b.Leaves.length=4):=by
 have a:=A9 (body:=λs:Int=>DD f s) (λ(_:Unit) i=>i) f.Blocks.length (λi _=>∀j b,j<i->f.Blocks[j]?=some b->b.Leaves.length=4) (λr=>r= .inr false\/r= .inl ()/\∀b∈f.Blocks,b.Leaves.length=4)
  (λs i hi hs=>by
   obtain⟨x,hx⟩:∃x,f.Blocks[i]?=some x:=⟨_,Ab hi⟩;have hM:=h.1;simp only[DD,D6 hi,Ao,hx,Aa,PF];by_cases h4:x.Leaves.length=4
   ·have e1:(ln x.Leaves !=4)=false:=by simp[ln,h4]
    simp only[e1,Ad,Aa]
    cases hw:(decide (0<=x.Wear)&&decide (x.Wear<=1000000000))with
    |false=>grind
    |true=>
     simp only[Al,Ad];obtain⟨r,h5,h6⟩:=A9 (body:=λs:Int=>DC x s) (λ(_:Unit) i=>i) x.Leaves.length (λ_ _=>True) (λr=>r= .inl ()\/r= .inr (.inr<|.inr false))
      (λs k hk _=>by
       obtain⟨y,hy⟩:∃y,x.Leaves[k]?=some y:=⟨_,Ab hk⟩;obtain⟨v,hv⟩:=zQ y;simp only[DC,D6 hk,Ao,hy,Aa,hv];have fin:∀j:Bool,(∃s':Unit,(bif j then some (.inr<|.inr<|.inr<|.inr false)else some (.inl<|ad (k:Int) 1):Option (Int⊕Unit⊕Int⊕Unit⊕Bool))=some (.inl (((k+1:Nat)):Int))/\True)\/∃b,(bif j then some (.inr<|.inr<|.inr<|.inr false)else some (.inl<|ad (k:Int) 1):Option (Int⊕Unit⊕Int⊕Unit⊕Bool))=some (.inr b)/\(b= .inl ()\/b= .inr (.inr<|.inr false)):=by
        intro j
        cases j with
        |true=>grind
        |false=>exact .inl ⟨(),by rw[Ad,ad1],trivial⟩
       cases v with
       |false=>exact fin true
       |true=>
        by_cases c:0<k
        ·rw[cT,BC,JU (by omega) (by omega),Aa];cases(x.Leaves[((k:Int)-1).toNat]'(by omega)).Is==0
         ·exact fin false
         exact fin<|y.Is !=0
        simp_all)
      (λs _=>⟨_,by grind [DC],.inl rfl⟩) (s:=()) trivial
     rw[h5,Aa]
     rcases h6 with rfl|rfl
     ·refine .inl ⟨(),by rw[CL,ad1],?_⟩
      grind
     grind
   grind [ln])
  (λs hs=>⟨_,by simp[Dk,DD],.inr ⟨rfl,λb hb=>by
   obtain⟨j,hj,e⟩:=Av hb
   exact hs j b hj<|by grind⟩⟩) (s:=()) (λj b hj=>absurd hj<|by omega)
 obtain⟨r,h1,h2⟩:=a;unfold EN;rw[h1,Aa]
 rcases h2 with rfl|⟨rfl,h2⟩
 ·simp
 simp_all [PF,Bi];grind
theorem R8 (p:Page):∃v,Jv p=some v/\QE p=some v/\(v=true->(p.Kind=1\/p.Kind=2)/\(1<=p.Seq/\p.Seq<=1000000000)/\(1<=p.Tx/\p.Tx<=1000000000)/\(1<=p.Count/\p.Count<=9)/\(0<=p.Part/\p.Part<p.Count)/\Gq p.Text<=90):=by
 unfold Jv QE;rw[Yg];simp only[PF,Aa];by_cases h1:1<=p.Seq/\p.Seq<=1000000000
 ·by_cases h2:1<=p.Tx/\p.Tx<=1000000000
  ·by_cases h3:1<=p.Count/\p.Count<=9
   ·have e:sb p.Count 1=p.Count-1:=BC (by omega) (by omega);rw[e];by_cases h4:0<=p.Part/\p.Part<=p.Count-1
    ·by_cases h5:Gq p.Text>90
     ·simp_all
     by_cases k2:p.Kind=2
     ·exact⟨true,by grind,by grind,λ_=>⟨.inr k2,h1,h2,h3,⟨h4.1,by omega⟩,by omega⟩⟩
     by_cases k1:p.Kind=1
     ·exact⟨p.Count==1,by grind,by grind,λ_=>⟨.inl k1,h1,h2,h3,⟨h4.1,by omega⟩,by omega⟩⟩
     have hk:(decide (1<=p.Kind)&&decide (p.Kind<=2))=false:=by grind
     exact⟨false,by simp[hk],by grind,by simp⟩
    refine⟨false,?_,?_,by simp⟩
    ·grind
    grind
   have e3:(decide (1<=p.Count)&&decide (p.Count<=9))=false:=by grind
   refine⟨false,?_,?_,by simp⟩
   ·grind
   grind
  have e2:(decide (1<=p.Tx)&&decide (p.Tx<=1000000000))=false:=by grind
  refine⟨false,?_,?_,by simp⟩
  ·grind
  simp[h1,e2]
 have e1:(decide (1<=p.Seq)&&decide (p.Seq<=1000000000))=false:=by grind
 refine⟨false,?_,?_,by simp⟩
 ·grind
 simp[e1]
def aK:Page:=Page.mk 0 0 0 0 0<|bs []
theorem Hq (u:ByteArray) (a:Int) (hu:(L u).length<=20000) (ha:oI a):CH (Eb.mk u a true)=some (0,Eb.mk u a true):=by grind [H7,CH]
theorem IS {r:Int×Int×Bool} (u:ByteArray) (a:Int) (hu:(L u).length<=20000) (h:IM u a=some r):CH (Eb.mk u a false)=some (cond r.2.2 (r.1,Eb.mk u r.2.1 false) (0,Eb.mk u a true)):=by
 unfold CH
 grind
theorem nF {a b:Nat} (l:List UInt8) (h:a<=b):l.drop a=(l.drop a).take (b-a)++l.drop b:=by
 have:=(Ca (b-a)<|l.drop a).symm;rw[DS,show a+(b-a)=b by omega]at this;exact this
theorem VN (p:Page) (u:ByteArray) (k:UInt8) (n1 n2 n3 n4:Nat) (hp:Jv p=some true) (hk:p.Kind=(k.toNat:Int)) (h1:p.Seq=n1) (h2:p.Tx=n2) (h3:p.Part=n3) (h4:p.Count=n4) (b1:n1<=1000000000) (b2:n2<=1000000000) (b3:n3<=1000000000) (b4:n4<=1000000000) (hu:(L u).length<=20000) (e:L u=[k]++BJ n1++BJ n2++BJ n3++BJ n4++L p.Text):D4 p=Jq u:=by
 obtain⟨s1,q1,r1⟩:=HJ n1 (by omega);obtain⟨s2,q2,r2⟩:=HJ n2 (by omega);obtain⟨s3,q3,r3⟩:=HJ n3 (by omega);obtain⟨s4,q4,r4⟩:=HJ n4 (by omega);have hl:=Ch List.length e;have hb:IJ p.Kind=some (EC [IntKind.u8.wrap p.Kind]):=rfl;have a:L (EC [IntKind.u8.wrap p.Kind])=[k]:=by grind [MM,IntKind.wrap_u8,fV,UInt8.ofNat_toNat]
 unfold D4;rw[hp];simp only[Aa,Al,Ad,hb,h1,h2,h3,h4,q1,q2,q3,q4];rw[Fy _ _ (by grind),Aa,Fy _ _ (by grind [FZ]),Aa,Fy _ _ (by grind [FZ]),Aa,Fy _ _ (by grind [FZ]),Aa,Fy _ _ (by grind [FZ]),Aa];have:EC [IntKind.u8.wrap p.Kind]++s1++s2++s3++s4++p.Text=u:=by grind [JK,FZ]
 rw[this]
 cases Jq u with
 |none=>rfl
 |some v=>rfl
theorem H8 (t:ByteArray) (ht:(L t).length<=9223372036854775806):∃p ok,Ez t=some (p,ok)/\Pb t=some (p,ok)/\(ok=false->p=aK)/\(ok=true->Jv p=some true):=by
 obtain⟨u,uok,j,k,m,n⟩:=jS t ht;unfold Ez Pb;rw[j,k];simp only[Aa];have o1:oI 1:=⟨by omega,by omega⟩
 cases uok with
 |false=>
  have:=n rfl;subst this;have hz:(L<|bs []).length<=20000:=by rw[Du];simp
  exact⟨aK,false,rfl,rfl,λ_=>rfl,by simp⟩
 |true=>
  obtain⟨e,v,hv,q⟩:=m rfl;simp only[Al,Ad,Aa];by_cases he:(L u).length<1
  ·have g:seq u (bs [])=true:=by grind [PA,Du]
   simp_all [Bh,Hq,aK]
  have g:seq u (bs [])=false:=by grind [PA,Du]
  rw[Ah (by rw[Bh];omega:¬Gq u<1),g];simp only[Ad];have four_:∀(B:Int×Int×Int×Int×Int×Int->Option ((Int×Int×Int×Int×Int×Int)⊕(Int×Int×Int×Int×Int)⊕(Page×Bool))),(∀x y a b c d,B (x,y,a,b,c,d)=DI (u,true) x y a b c d)->
    ∃(a:Int) (m1 m2 m3 m4:Int) (bad:Bool),(∃c1 c2 c3,CH (Eb.mk u 1 false)=some (m1,c1)/\CH c1=some (m2,c2)/\CH c2=some (m3,c3)/\CH c3=some (m4,Eb.mk u a bad))/\
     Ai B (1,0,0,0,0,0)=some (bif bad then .inr (aK,false)else .inl (a,m1,m2,m3,m4))/\(bad=false->∃(a1 a2 a3 a4 n1 n2 n3 n4:Nat),m1=n1/\m2=n2/\m3=n3/\m4=n4/\a=a4/\1<a1/\a1<a2/\a2<a3/\a3<a4/\a4<=(L u).length/\n1<=1000000000/\n2<=1000000000/\n3<=1000000000/\n4<=1000000000/\
      BJ n1=((L u).drop 1).take (a1-1)/\BJ n2=((L u).drop a1).take (a2-a1)/\BJ n3=((L u).drop a2).take (a3-a2)/\BJ n4=((L u).drop a3).take (a4-a3)):=by
   intro B hB;obtain⟨r1,p1,q1,w1⟩:=H7 u 1 (by omega) o1;have g1:=IS u 1 e p1;rw[Au,hB];unfold DI;rw[cT,q1,Aa]
   rcases w1 with⟨w1,w2,w3⟩|⟨w1,a0',a1,n1,z0,z1,z2,z3,z4,z5,z6⟩
   ·rw[w1]at g1⊢;exact⟨1,0,0,0,0,true,⟨_,_,_,g1,Hq u 1 e o1,Hq u 1 e o1,Hq u 1 e o1⟩,rfl,by simp⟩
   have ea0:a0'=1:=by omega
   subst ea0;rw[w1]at g1⊢;have x1:oI r1.2.1:=⟨by omega,by omega⟩;simp only[Al,Ad,An]at g1⊢;rw[show((0:Int)==0)=true from rfl,An,show ad 0 1=1 from ad1 (i:=0)<|by omega];simp only;obtain⟨r2,p2,q2,y1⟩:=H7 u r1.2.1 (by omega) x1;have g2:=IS u r1.2.1 e p2;rw[Au,hB];unfold DI;rw[cT,q2,Aa]
   rcases y1 with⟨y1,_,_⟩|⟨y1,b0,a2,n2,y2,y3,y4,y5,y6,y7,y8⟩
   ·rw[y1]at g2⊢;exact⟨r1.2.1,r1.1,0,0,0,true,⟨_,_,_,g1,g2,Hq u _ e x1,Hq u _ e x1⟩,rfl,by simp⟩
   have eb:b0=a1:=by omega
   subst eb;rw[y1]at g2⊢;have x2:oI r2.2.1:=⟨by omega,by omega⟩;simp only[Al,Ad,An]at g2⊢;rw[show((1:Int)==0)=false from rfl,Ad,show((1:Int)==1)=true from rfl,An,show ad 1 1=2 from ad1 (i:=1)<|by omega];simp only;obtain⟨r3,p3,q3,k1⟩:=H7 u r2.2.1 (by omega) x2;have g3:=IS u r2.2.1 e p3;rw[Au,hB];unfold DI;rw[cT,q3,Aa]
   rcases k1 with⟨k1,_,_⟩|⟨k1,c0,a3,n3,k2,k3,k4,k5,k6,k7,k8⟩
   ·rw[k1]at g3⊢;exact⟨r2.2.1,r1.1,r2.1,0,0,true,⟨_,_,_,g1,g2,g3,Hq u _ e x2⟩,rfl,by simp⟩
   have ec:c0=a2:=by omega
   subst ec;rw[k1]at g3⊢;have x3:oI r3.2.1:=⟨by omega,by omega⟩;simp only[Al,Ad,An]at g3⊢;rw[show((2:Int)==0)=false from rfl,Ad,show((2:Int)==1)=false from rfl,Ad,show((2:Int)==2)=true from rfl,An,show ad 2 1=3 from ad1 (i:=2)<|by omega];simp only;obtain⟨r4,p4,q4,l1⟩:=H7 u r3.2.1 (by omega) x3;have g4:=IS u r3.2.1 e p4;rw[Au,hB];unfold DI;rw[cT,q4,Aa]
   rcases l1 with⟨l1,_,_⟩|⟨l1,d0,a4,n4,l2,l3,l4,l5,l6,l7,l8⟩
   ·rw[l1]at g4⊢;exact⟨r3.2.1,r1.1,r2.1,r3.1,0,true,⟨_,_,_,g1,g2,g3,g4⟩,rfl,by simp⟩
   have ed:d0=a3:=by omega
   subst ed;rw[l1]at g4⊢;simp only[Al,Ad,An]at g4⊢;rw[show((3:Int)==0)=false from rfl,Ad,show((3:Int)==1)=false from rfl,Ad,show((3:Int)==2)=false from rfl,Ad,show((3:Int)==3)=true from rfl,An,show ad 3 1=4 from ad1 (i:=3)<|by omega];simp only;rw[Au,hB];unfold DI;rw[cF];exact⟨r4.2.1,r1.1,r2.1,r3.1,r4.1,false,⟨_,_,_,g1,g2,g3,g4⟩,rfl,λ_=>⟨b0,c0,d0,a4,n1,n2,n3,n4,z2,y4,k4,l4,l3,z3,y5,k5,l5,l6,z5,y7,k7,l7,z6,y8,k8,l8⟩⟩
  obtain⟨a,m1,m2,m3,m4,bad,⟨c1,c2,c3,f1,f2,f3,f4⟩,f5,f6⟩:=four_ (λs:Int×Int×Int×Int×Int×Int=>DI (u,true) s.1 s.2.1 s.2.2.1 s.2.2.2.1 s.2.2.2.2.1 s.2.2.2.2.2) λ_ _ _ _ _ _=>rfl;rw[f5];simp only[f1,f2,f3,f4,Aa]
  cases bad with
  |true=>grind [aK]
  |false=>
   obtain⟨a1,a2,a3,a4,n1,n2,n3,n4,rfl,rfl,rfl,rfl,rfl,i1,i2,i3,i4,i5,j1,j2,j3,j4,s1,s2,s3,s4⟩:=f6 rfl;simp only[Ad,Aa,CL];have o:sx u 0=some (((L u)[0]'(by omega)).toNat:Int):=Eg u (i:=0) (by omega);have h:sub u (a4:Int) (Gq u)=some (u.extract a4 (L u).length):=by grind [Bh,FE]
   rw[o,h];simp only[Aa];have hk:=fV ((L u)[0]'(by omega));have hw:IntKind.i64.wrap (((L u)[0]'(by omega)).toNat:Int)=((L u)[0]'(by omega)).toNat:=NE (by omega) (by omega);rw[hw];obtain⟨po,po1,po2,_⟩:=R8 (Page.mk (((L u)[0]'(by omega)).toNat:Int) n1 n2 n3 n4<|u.extract a4 (L u).length);rw[po2]
   cases po with
   |false=>
    have:D4 (Page.mk (((L u)[0]'(by omega)).toNat:Int) n1 n2 n3 n4<|u.extract a4 (L u).length)=some (bs [],false):=by grind [D4]
    rw[this];simp[aK]
   |true=>
    have hT:L (u.extract a4 (L u).length)=(L u).drop a4:=by grind [JL,AP]
    have f:L u=[(L u)[0]'(by omega)]++BJ n1++BJ n2++BJ n3++BJ n4++L (u.extract a4 (L u).length):=by
     rw[hT,s1,s2,s3,s4];have h0:L u=[(L u)[0]'(by omega)]++(L u).drop 1:=by
      have:=AA (l:=L u) (i:=0) (by omega);simpa using this
     grind [nF]
    rw[VN _ u ((L u)[0]'(by omega)) n1 n2 n3 n4 po1 rfl rfl rfl rfl rfl j1 j2 j3 j4 e f];obtain⟨v',hv',hs'⟩:=(R6 u).2 e;rw[hv]at hv'
    injection hv' with hv'
    subst hv';rw[hs',Aa];have:seq (u++four v) t=true:=by grind [Kc]
    simp only[Al,Ad,Aa,this]
    grind
def W3 (x:Leaf):Nat:=x.Text.size
def Lo (x:Block):Nat:=zl W3 x.Leaves
def N1 (x:Flash):Nat:=zl Lo x.Blocks
theorem AAm (f:Flash) (h:N1 f<=1048576):IB f/\∀b∈f.Blocks,∀x∈b.Leaves,(L x.Text).length<=1048576:=by
 have h1:=Uf (z:=Lo) (l:=f.Blocks);unfold N1 at h;refine⟨⟨by omega,λb hb=>?_⟩,λb hb x hx=>?_⟩
 ·grind [kR,Lo,zl]
 grind [kR,YD,Lo,W3]
def nl (l:List Block):Nat:=(l.map λb=>b.Leaves.length).sum
theorem ACg (f:Flash):nl f.Blocks<=N1 f:=by
 unfold nl N1 zl;have:∀l:List Block,(l.map λb=>b.Leaves.length).sum<=(l.map Lo).sum:=by
  intro l
  induction l with
  |nil=>simp
  |cons b l ih=>grind [Lo,zl]
 grind
def Qz (f:Flash) (y:Aj):Prop:=∃b x,gi f.Blocks y.Block=some b/\gi b.Leaves y.Leaf=some x/\(x.Is==1)=true/\Ez x.Text=some (y.Page,true)
theorem VK {b:Block} {x:Leaf} (f:Flash) (hf:IB f) (hb:f.Blocks[i]?=some b) (hx:b.Leaves[k]?=some x):O2 f i k=some (cond (x.Is==1) (x.Text,true) (bs [],false)):=by
 have h1:=(Ae.1 hb).1;have h2:=(Ae.1 hx).1;have h3:=hf.1;have h4:=hf.2 b<|Ap hb;unfold O2;rw[BC (by rw[Bi];omega) (by rw[Bi];omega),PF,Bi,Ac (by omega:(0:Int)<=(i:Int)),Ac (by omega:(i:Int)<=(f.Blocks.length:Int)-1)];simp only[Aa,Bool.and_self,Al,Ad,Ao,hb];rw[BC (by rw[Bi];omega) (by rw[Bi];omega),PF,Bi,Ac (by omega:(0:Int)<=(k:Int)),Ac (by omega:(k:Int)<=(b.Leaves.length:Int)-1)]
 grind
theorem Yl (f:Flash) (hf:IB f) (hT:∀b∈f.Blocks,∀x∈b.Leaves,(L x.Text).length<=1048576) (hn:nl f.Blocks<=1048576):
  ∃X,Ai (λs:List Aj×Int=>D9 f s.1 s.2) ([],0)=some X/\Ai (λs:Int×List Aj=>HP f s.1 s.2) (0,[])=some X/\X.length<=nl f.Blocks/\∀y∈X,Qz f y:=by
 refine Qw (body:=λs:List Aj×Int=>D9 f s.1 s.2) (body':=λs:Int×List Aj=>HP f s.1 s.2) (λs i=>(s,i)) (λs i=>(i,s)) f.Blocks.length (λi a=>a.length<=((f.Blocks.take i).map λb=>b.Leaves.length).sum/\∀y∈a,Qz f y) (λX=>X.length<=nl f.Blocks/\∀y∈X,Qz f y) ?_ ?_ (s:=[]) ⟨by simp,by simp⟩
 ·intro a i hi ⟨c,d⟩;have hb:f.Blocks[i]?=some f.Blocks[i]:=Ab hi;have hm:f.Blocks[i]∈f.Blocks:=Ar _;have h:=NJ (λb:Block=>b.Leaves.length) f.Blocks i hi;have j:=KE (λb:Block=>b.Leaves.length) f.Blocks<|i+1;unfold nl at hn;have l:=hf.1;refine .inl ?_;simp only[D9,HP,D6 hi,Ao,hb,Aa];obtain⟨u,q1,q2,q3⟩:=Qw (body:=λs:List Aj×Int=>Fd f (i:Int) s.1 s.2) (body':=λs:Int×List Aj=>JC (i:Int) f.Blocks[i] s.1 s.2) (λs i=>(s,i)) (λs i=>(i,s)) f.Blocks[i].Leaves.length (λk u=>u.length<=a.length+k/\∀y∈u,Qz f y) (λu=>u.length<=a.length+f.Blocks[i].Leaves.length/\∀y∈u,Qz f y)
   (λu k hk hu=>by
    have hx:f.Blocks[i].Leaves[k]?=some f.Blocks[i].Leaves[k]:=Ab hk
    have g:∀y:Aj,ap 72 u [y]=some (u++ [y]):=λy=>Bq<|by grind
    refine .inl ?_;obtain⟨p,ok,r1,r2,r3,r4⟩:=H8 f.Blocks[i].Leaves[k].Text (by grind);simp only[Fd,JC,D6 hk,Ao,hb,hx,Aa,VK f hf hb hx,r2,g]
    cases e:f.Blocks[i].Leaves[k].Is==1 with
    |false=>grind [H8,Du,ad1]
    |true=>
     simp only[An,Aa,r1]
     cases ok with
     |false=>grind [ad1]
     |true=>
      refine⟨u++ [Aj.mk i k p],by grind [ad1],by grind [ad1],by grind,λy hy=>?_⟩
      rcases A0.1 hy with hy|hy
      ·exact hu.2 y hy
      rw[Bl]at hy;subst hy
      exact⟨_,_,by simp only[Ao];exact hb,by grind [Ao],e,r1⟩)
   (λu hu=>⟨u,by simp_all [Ao,Dk,Fd],by simp[Dk,JC],hu⟩) (s:=a) ⟨by omega,d⟩
  grind [ad1]
 intro a ⟨c,d⟩;refine⟨a,by simp[Dk,D9],by simp[Dk,HP],?_,d⟩;rw[Dg]at c;exact c
theorem eM {l:List γ} {i j:Int} {x y:γ} (h:gi l j=some y):∃z,gi (si l i x) j=some z:=by grind [gi,si]
theorem kY (l:List Aj) (k:Int):Jr l k=(AR (Ma Bg) 0 k l).map (Sum.map (λs=>(s.2,s.1)) id):=by
 unfold Jr AR sU kX
 cases hk:decide (k>0)with
 |false=>rfl
 |true=>
  cases h1:gi l (sb k 1)with
  |none=>simp
  |some x=>
   cases h2:gi l k with
   |none=>simp
   |some y=>
    simp only[Aa];have e:(decide<|x.Page.Seq>y.Page.Seq)=Ma Bg y x:=rfl;rw[e]
    cases Ma Bg y x with
    |false=>rfl
    |true=>
     obtain⟨z,hz⟩:=eM (i:=k) (x:=x) h1
     grind
theorem yM {l l':List γ} {i j:Int} (h:kX l i j=some l'):l'.length=l.length:=by grind [Ag,kX,si]
theorem z7 {a j:Int} {l r:List Aj} (h:Ai (λs:Int×List Aj=>AR (Ma Bg) a s.1 s.2) (j,l)=some r):r.length=l.length:=by
 refine rQ (λs:Int×List Aj=>s.2.length=l.length) (λr=>r.length=l.length) ?_ ?_ (s:=(j,l)) rfl h
 ·rintro⟨j,m⟩ s' hm hb;obtain⟨c,_,hb⟩:=Ag.1 hb
  grind [Ag,yM]
 rintro⟨j,m⟩ b hm hb;obtain⟨c,_,hb⟩:=Ag.1 hb
 grind [Ag]
theorem Y2 (f:Flash) (hf:IB f) (hT:∀b∈f.Blocks,∀x∈b.Leaves,(L x.Text).length<=1048576) (hn:nl f.Blocks<=1048576):
  ∃r,EM f=some r/\Ew f=some r/\r.length<=nl f.Blocks/\(∀y∈r,Qz f y)/\srt Bg r:=by
 obtain⟨X,h1,h2,h3,h4⟩:=Yl f hf hT hn;obtain⟨r,h5,h6,h7⟩:=ZI Bg X (by omega);obtain⟨r',h8,h9,h10⟩:=HL Bg [] X [] (by grind);have hr:r'=r:=Mk Bg h9 h6 (λk=>by rw[h7 k,<-h10 k]);subst hr;refine⟨r',?_,?_,?_,?_,h6⟩
 ·unfold EM;rw[h1,Aa];simp only[Az,AI,L5,Kv]at h8;unfold Bu at h8;have hc:Ai (λs:List Aj×Int=>Js s.1 s.2) (X,1)=Ai (λs:Int×List Aj=>AM (Ma Bg) ((0:Nat):Int) (X.length:Int) s.1 s.2) (1,X):=by
   refine iG (body:=λs:Int×List Aj=>AM (Ma Bg) ((0:Nat):Int) (X.length:Int) s.1 s.2) (body':=λs:List Aj×Int=>Js s.1 s.2) (λs=>(s.2,s.1)) (λs=>s.2.length=X.length) ?_ ?_ (1,X) rfl
   ·rintro⟨j,m⟩ hm;simp only[Js,AM,Bi,hm]
    cases decide (j<(X.length:Int))with
    |false=>rfl
    |true=>
     rw[mN (body:=λs:Int×List Aj=>AR (Ma Bg) ((0:Nat):Int) s.1 s.2) (body':=λs:List Aj×Int=>Jr s.1 s.2) (λs=>(s.2,s.1)) (λs=>kY s.2 s.1) (j,m)];cases Ai (λs:Int×List Aj=>AR (Ma Bg) ((0:Nat):Int) s.1 s.2) (j,m)<;>rfl
   rintro⟨j,m⟩ s' hm hb;simp only[AM]at hb
   cases hc:decide (j<(X.length:Int))with
   |false=>grind
   |true=>
    rw[hc,An]at hb;obtain⟨m',h1,hb⟩:=Ag.1 hb
    injection hb with hb
    injection hb with hb
    subst hb;exact(z7 h1).trans hm
  rw[hc];exact h8
 ·unfold Ew
  grind
 ·grind [Bs.len]
 grind [Bs.mem]
theorem M5 {S:Type} {body:S->Option (S⊕List α)} (a:List α->Int->S) (g:Nat->α->α) (l0:List α) (h1:∀(i:Nat) (l:List α) x,l.length=l0.length->l[i]?=some x->l0[i]?=some x->body (a l (i:Nat))=some (.inl (a (l.set i (g i x)) ((i+1:Nat):Int)))) (h2:∀l:List α,l.length=l0.length->body (a l (l0.length:Nat))=some (.inr l)):Ai body (a l0 0)=some (l0.mapIdx g):=by
 obtain⟨b,h3,h4⟩:=A9 (body:=body) a l0.length (λi l=>l.length=l0.length/\∀j,l[j]?=if j<i then(l0[j]?).map (g j)else l0[j]?) (λb=>b=l0.mapIdx g)
  (λl i hi hs=>by
   obtain⟨hl,hs⟩:=hs;have c:l0[i]?=some l0[i]:=Ab hi
   grind)
  (λl hs=>⟨l,h2 l hs.1,by
   apply BU
   grind⟩) (s:=l0) ⟨rfl,λj=>by rfl⟩
 rw[h3,h4]
abbrev Ks:=List Bb
def dk:Bb:=Bb.mk true []
def Bz (K:Ks) (i:Int):Bb:=(gi K i).getD dk
def ND (k:Bb) (j:Nat):Int:=(k.Kids[j]?).getD 0
def PN (K:Ks) (i:Nat) (leaf:Bool) (n:Int):Bool:=bif leaf then decide (0<=n)else(n== -1||(decide (0<=n/\n<=(i:Int)-1)&&(Bz K n).Leaf))
def Cl (K:Ks):Bool:=K.zipIdx.all λz=>z.1.Kids.length==4&&z.1.Kids.all (PN K z.2 z.1.Leaf)
def CN (K:Ks) (r:Int):Bool:=r== -1||(decide (0<=r/\r<(K.length:Int))&&!(Bz K r).Leaf)
def PI (K:Ks) (root:Int) (s:Nat):Int:=if root<0 then 0 else if ND (Bz K root) (s/4)<0 then 0 else ND (Bz K<|ND (Bz K root)<|s/4)<|s %4
def EF (K:Ks) (root:Int):List Int:=(List.range 16).map<|PI K root
variable {K X:Ks}
theorem NU (h:i<K.length):Bz K (i:Int)=K[i]:=by grind [Ao,Bz]
theorem GV {i:Int} (h0:0<=i) (h:i<(K.length:Int)):gi K i=some (Bz K i):=by grind [JU,Bz]
theorem Dx (x a b:Int):Bx x a b=some (decide (a<=x/\x<=b)):=by
 rw[PF];simp
theorem Fz:Cl K=true↔∀i:Nat,i<K.length->(Bz K (i:Int)).Kids.length=4/\∀n∈(Bz K (i:Int)).Kids,PN K i (Bz K (i:Int)).Leaf n=true:=by simp_all [NU,List.mem_zipIdx_iff_getElem?,Ae,Cl];grind
theorem Jy (a:Arena) (ha:a.Knots.length<=1048576):FO a=some (Cl a.Knots):=by
 unfold FO;have h:=X7 (body:=λs:Int=>DG a s) a.Knots (λi k=>k.Kids.length==4&&k.Kids.all (PN a.Knots i k.Leaf)) (.inr false) (.inl ()) (by omega)
  (λi k hk=>by
   have hi:=(Ae.1 hk).1;simp only[DG,D6 hi,Ao,hk,Aa];by_cases h4:k.Kids.length=4
   ·have e1:(ln k.Kids !=4)=false:=by simp[ln,h4]
    have e2:(k.Kids.length==4)=true:=by simp[h4]
    simp only[e1,Ad,e2,Bool.true_and];have q:=X7 (body:=λs:Int=>Ek a (i:Int) k s) k.Kids (λ_ n=>PN a.Knots i k.Leaf n) (.inr<|.inr<|.inr false) (.inl ()) (by omega)
     (λj n hn=>by
      have hj:=(Ae.1 hn).1;simp only[Ek];rw[cT,Ao,hn];simp only[Aa,PN]
      cases hl:k.Leaf with
      |true=>grind [ad1]
      |false=>
       simp only[Ad,BW,An];by_cases h1:n= -1
       ·grind [ad1]
       grind [BC,Dx,GV,ad1])
     (by grind [Ek])
    rw[q];have hz:(k.Kids.zipIdx.all λz=>PN a.Knots i k.Leaf z.1)=k.Kids.all (PN a.Knots i k.Leaf):=by
     rw[show(λz:Int×Nat=>PN a.Knots i k.Leaf z.1)=(PN a.Knots i k.Leaf)∘Prod.fst from rfl,<-List.all_map];simp
    grind [ad1]
   grind [ln])
  (by simp[Dk,DG])
 grind [Cl]
theorem LB (a:Arena) (ha:a.Knots.length<=1048576) (r:Int):GD a r=some (CN a.Knots r):=by grind [Bi,BC,Dx,GV,GD,CN]
theorem B5 (h:CN K r=true):r= -1\/(0<=r/\r<(K.length:Int)/\(Bz K r).Leaf=false):=by grind [CN]
theorem E7 (hK:Cl K=true) (h0:0<=r) (h1:r<(K.length:Int)):(Bz K r).Kids.length=4/\∀j,j<4->(Bz K r).Kids[j]?=some (ND (Bz K r) j)/\PN K r.toNat (Bz K r).Leaf (ND (Bz K r) j)=true:=by
 have:=Fz.1 hK r.toNat<|by omega
 grind [ND]
theorem Fi (hK:Cl K=true) (h0:0<=r) (h1:r<(K.length:Int)) (hl:(Bz K r).Leaf=false) (hj:j<4):ND (Bz K r) j= -1\/(0<=ND (Bz K r) j/\ND (Bz K r) j<r/\(Bz K (ND (Bz K r) j)).Leaf=true):=by grind [E7,PN]
theorem vO (hK:Cl K=true) (h0:0<=r) (h1:r<(K.length:Int)) (hl:(Bz K r).Leaf=true) (hj:j<4):0<=ND (Bz K r) j:=by grind [E7,PN]
theorem qu4 {s:Nat} (h:s<16):qu (s:Int) 4=((s/4:Nat):Int):=by grind [NE,qu]
theorem s8 {s:Nat}:Int.tmod (s:Int) 4=((s %4:Nat):Int):=by rfl
theorem Vm {s:Nat} (a:Arena) (hK:Cl a.Knots=true) (hr:CN a.Knots r=true) (hs:s<16):Mr a r (s:Int)=some (PI a.Knots r s):=by
 unfold Mr PI
 rcases B5 hr with rfl|⟨h0,h1,hl⟩
 ·rfl
 rw[Ah (by omega:¬r<0),Bc (by omega),Ad,GV h0 h1];rw[Aa,qu4 hs,Ao,((E7 hK h0 h1).2 (s/4)<|by omega).1];simp only[Aa]
 rcases Fi hK h0 h1 hl (show s/4<4 by omega)with e|⟨e1,e2,e3⟩
 ·rw[e];rfl
 rw[Ah (by omega),Bc (by omega),Ad,GV e1<|by omega];rw[Aa,s8,Ao,((E7 hK e1<|by omega).2 (s %4)<|by omega).1];rfl
theorem Xc {s:Nat} (a:Arena) (ha:a.Knots.length<=1048576) (hK:Cl a.Knots=true) (hr:CN a.Knots r=true) (hs:s<16):O3 a r (s:Int)=some (PI a.Knots r s):=by simp_all [Jy,LB,Dx,Vm,O3];grind
theorem Kj (a:Arena) (ha:a.Knots.length<=1048576) (hK:Cl a.Knots=true) (hr:CN a.Knots r=true):HG a r=some (EF a.Knots r):=by
 unfold HG;obtain⟨b,h1,h2⟩:=A9 (body:=λs:List Int×Int=>Kk a r s.1 s.2) (λ(o:List Int) i=>(o,i)) 16 (λi o=>o=(List.range i).map (PI a.Knots r)) (λb=>b=EF a.Knots r)
  (λo i hi ho=>by grind [Xc,Bq,ad1,Dy,Kk])
  (λo ho=>⟨_,by rfl,ho⟩) (s:=[]) rfl
 grind
theorem Ku {by_:Nat} (h:l.length*by_<=140737488355328):ap by_ [] l=some l:=by grind [Bq]
def wQ (K:Ks):Prop:=K.length<=1048576/\∀k∈K,k.Kids.length<=1048576
theorem JI (hK:Cl K=true) (h:K.length<=1048576):wQ K:=by
 refine⟨h,λk hk=>?_⟩
 grind [Av,Fz,NU]
theorem Tg (a:Arena) (h:wQ a.Knots):LS a=some a:=by
 unfold LS;have h1:=Ty (body:=λs:Int×List Bb=>Jl a s.1 s.2) a.Knots (λk=>k)
  (λi k b hk ho=>by
   have hi:=(Ae.1 hk).1;have hm:=h.2 k<|Ap hk;have:=h.1;simp only[Jl,D6 hi,Ao,hk,Aa]
   rw[Ku (by omega),Aa,Bq (by simp;omega),Aa,ad1])
  (λb=>by simp[Dk,Jl])
 rw[h1];simp
theorem Fc (s:Store) (h:wQ s.Arena.Knots) (hv:s.Vols.length<=1048576):Dt s=some s:=by
 unfold Dt;rw[Ku (by omega),Tg _ h];rfl
def PD (K:Ks) (r:Int) (s:Nat) (n:Int):List Int:=(if r<0 then [0,0,0,0]else if ND (Bz K r) (s/4)<0 then [0,0,0,0]else(Bz K<|ND (Bz K r)<|s/4).Kids).set (s %4) n
def SO (K:Ks) (r:Int) (s:Nat):List Int:=(if r<0 then [-1,-1,-1,-1]else(Bz K r).Kids).set (s/4) (K.length:Int)
def Ja (K:Ks) (r:Int) (s:Nat) (n:Int):Ks:=K++ [Bb.mk true<|PD K r s n,Bb.mk false<|SO K r s]
theorem mk4:mk 8 (0:Int) 4=some [0,0,0,0]:=by rfl
theorem iZ {k:Bb} (h:j<k.Kids.length):gi k.Kids (j:Int)=some (ND k j):=by grind [Ao,ND]
theorem WZ {s:Nat} (a:Arena) (ha:a.Knots.length<=1048000) (hK:Cl a.Knots=true) (hr:CN a.Knots r=true) (hs:s<16) (hn:0<=n):
  Wj a r (s:Int) n=some (Arena.mk (Ja a.Knots r s n),(a.Knots.length:Int)+1):=by
 unfold Wj;rw[Tg _ (JI hK<|by omega),Jy a (by omega),LB a (by omega),Dx,hK,hr];rw[Ac (by omega:0<=(s:Int)/\(s:Int)<=15),Ah (by omega:¬n<0)];rw[mk4];simp only[Aa];have fin:∀(lf tp:List Int),lf.length=4->tp.length=4->Ja a.Knots r s n=a.Knots++ [Bb.mk true<|lf.set (s %4) n,Bb.mk false<|tp.set (s/4) (a.Knots.length:Int)]->
   ((gi lf<|Int.tmod (s:Int) 4).bind λx4=>(gi tp<|qu (s:Int) 4).bind λx5=>(ap 32 a.Knots [Bb.mk true<|si lf (Int.tmod (s:Int) 4) n,Bb.mk false<|si tp (qu (s:Int) 4)<|ln a.Knots]).bind λq4=>some (Arena.mk q4,sb (ln q4) 1))=some (Arena.mk<|Ja a.Knots r s n,(a.Knots.length:Int)+1):=by
  intro lf tp h1 h2 h3;rw[qu4 hs,s8,Ao,Ao,Ab (by omega),Ab<|by omega];rw[Bq (by simp;omega),Eh,Eh,Bi,<-h3]
  grind [Bi,BC]
 rcases B5 hr with rfl|⟨h0,h1,hl⟩
 ·rw[Ah (by omega:¬(-1:Int)>=0)];exact fin _ _ rfl rfl rfl
 rw[cT,GV h0 h1];have h4:=(E7 hK h0 h1).1;simp only[Aa];rw[Ku<|by omega];simp only[Aa];rw[qu4 hs,iZ (by omega:s/4<(Bz a.Knots r).Kids.length)];simp only[Aa];rw[<-qu4 hs]
 rcases Fi hK h0 h1 hl (show s/4<4 by omega)with e|⟨e1,e2,e3⟩
 ·grind [Ja,PD,SO]
 grind [GV,E7,Ku,Ja,PD,SO]
def MO (K:Ks) (r:Int) (i:Nat):Bool:=decide (0<=r)&&(decide (r=(i:Int))||(Bz K r).Kids.any λn=>decide<|n=(i:Int))
theorem dN (n:Nat) (f:Nat->α) (g:Nat->α->α):((List.range n).map f).mapIdx g=(List.range n).map λi=>g i (f i):=by
 apply BU
 grind
theorem NO (n:Nat) (f:Nat->α) (i:Nat) (x:α) (g:Nat->α) (h:∀j,j<n->g j=if j=i then x else f j):((List.range n).map f).set i x=(List.range n).map g:=by
 apply BU
 grind
theorem LY {n:Nat} {f:Nat->α} (h:i<n):((List.range n).map f)[i]?=some (f i):=by grind
theorem SS {l:List Int} {m:Nat} (h:l[m]?=some x) (p:Int->Bool):(l.take (m+1)).any p=((l.take m).any p||p x):=by grind [Dm]
theorem gG (a:Arena) (ha:a.Knots.length<=1048576) (hK:Cl a.Knots=true) (hr:CN a.Knots r=true):Tf a r=some ((List.range a.Knots.length).map (MO a.Knots r)):=by
 unfold Tf;rw[Bi,X4 (by omega)<|by omega];simp only[Aa]
 rcases B5 hr with rfl|⟨h0,h1,hl⟩
 ·simp only[show decide ((-1:Int)<0)=true from rfl,An];congr 1;rw[show(MO a.Knots<|-1)=λ_=>false from rfl,L4,ES]
 rw[cF];obtain⟨m,rfl⟩:∃m:Nat,r=(m:Int):=⟨r.toNat,by omega⟩;rw[Ao,List.getElem?_replicate,B3<|by omega];rw[Eh];obtain⟨h4,hk⟩:=E7 hK h0 h1;obtain⟨b,q1,q2⟩:=A9 (body:=λs:List Bool×Int=>KI a (m:Int) s.1 s.2) (λ(o:List Bool) i=>(o,i)) 4
  (λi o=>o=(List.range a.Knots.length).map λ(j:Nat)=>decide ((m:Int)=(j:Int))||((Bz a.Knots (m:Int)).Kids.take i).any λn=>decide<|n=(j:Int))
  (λb=>b=(List.range a.Knots.length).map (MO a.Knots (m:Int)))
  (λo i hi ho=>by
   obtain⟨e,_⟩:=hk i hi;simp only[KI];rw[cT,GV h0 h1];simp only[Aa];rw[Ao,e];simp only[Aa]
   rcases Fi hK h0 h1 hl hi with e1|⟨e1,e2,e3⟩
   ·grind [ad1,SS]
   obtain⟨c,hc⟩:∃c:Nat,ND (Bz a.Knots (m:Int)) i=(c:Int):=⟨(ND (Bz a.Knots (m:Int)) i).toNat,by omega⟩;rw[hc,cT];rw[ho,Ao,LY<|by omega];rw[Eh,ad1]
   simp_all [NO,SS];grind)
  (λo ho=>⟨_,by simp only[KI];rw[cF],by
   rw[ho];apply DY;intro j hj;rw[AP<|by omega]
   rfl⟩) (s:=(List.replicate a.Knots.length false).set m true) (by grind [ES,L4,NO])
 grind
def Cm (K:Ks) (R:List Int) (i:Nat):Bool:=R.any λr=>MO K r i
def fS (K:Ks) (R:List Int) (i:Nat):Nat:=((List.range i).filter<|Cm K R).length
def PL (K:Ks) (R:List Int) (n:Int):Int:=if 0<=n then(fS K R n.toNat:Int)else n
def WM (K:Ks) (R:List Int) (i:Nat):Bb:=Bb.mk (Bz K (i:Int)).Leaf<|bif(Bz K (i:Int)).Leaf then(Bz K (i:Int)).Kids else(Bz K (i:Int)).Kids.map<|PL K R
def ST (K:Ks) (R:List Int):Ks:=((List.range K.length).filter<|Cm K R).map<|WM K R
theorem HI (l:List α) (f:α->α):l.mapIdx (λ_ x=>f x)=l.map f:=by
 apply BU
 grind
theorem NG (hr:r∈R) (h0:0<=r):Cm K R r.toNat=true:=by grind [Cm,MO]
theorem WC (hK:Cl K=true) (hR:∀r∈R,CN K r=true) (hu:Cm K R i=true) (hl:(Bz K (i:Int)).Leaf=false):(i:Int)∈R:=by
 unfold Cm at hu;rw[Ex]at hu;obtain⟨r,hr,h⟩:=hu;unfold MO at h;simp only[Ak,GO,Bf,Ex]at h;obtain⟨h0,h⟩:=h
 rcases h with h|⟨n,hn,h⟩
 ·grind
 rcases B5 (hR r hr)with e|⟨_,h1,a⟩
 ·omega
 obtain⟨h4,hk⟩:=E7 hK h0 h1;obtain⟨j,hj,b⟩:=Av hn;have e:=(hk j<|by omega).1
 grind [Fi]
theorem SK (hr:r∈R) (h0:0<=r) (hn:n∈(Bz K r).Kids) (h1:0<=n):Cm K R n.toNat=true:=by grind [Cm,MO]
theorem AAO (i:Nat):fS K R i<=i:=by
 have:=Cu (Cm K R)<|List.range i;rw[ES]at this;exact this
theorem YO (a:Arena) (ha:a.Knots.length<=1048576) (R:List Int) (hc:R.length<=1048576) (hR:∀r∈R,CN a.Knots r=true):Ai (λs:Bool×Int=>EL a R s.1 s.2) (true,0)=some true:=by
 obtain⟨b,h1,h2⟩:=A9 (body:=λs:Bool×Int=>EL a R s.1 s.2) (λ(o:Bool) i=>(o,i)) R.length (λ_ o=>o=true) (λb=>b=true)
  (λo i hi ho=>by
   have hx:=Ab hi;simp only[EL,Gk,Ac hi,An,Aa,ho,Ao,hx];rw[LB a ha,hR _<|Ar hi,Aa,ad1]
   grind)
  (λo ho=>⟨o,by grind [Gk,EL],ho⟩) (s:=true) rfl
 grind
theorem cK (a:Arena) (ha:a.Knots.length<=1048576) (hK:Cl a.Knots=true) (R:List Int) (hc:R.length<=1048576) (hR:∀r∈R,CN a.Knots r=true):
  Ai (λs:List Bool×Int=>EK a R s.1 s.2) (List.replicate a.Knots.length false,0)=some ((List.range a.Knots.length).map (Cm a.Knots R)):=by
 obtain⟨b,h1,h2⟩:=A9 (body:=λs:List Bool×Int=>EK a R s.1 s.2) (λ(o:List Bool) i=>(o,i)) R.length (λi o=>o=(List.range a.Knots.length).map λ(j:Nat)=>(R.take i).any λr=>MO a.Knots r j) (λb=>b=(List.range a.Knots.length).map (Cm a.Knots R))
  (λo i hi ho=>by
   have hx:=Ab hi;simp only[EK,D6 hi,Aa,Ao,hx];rw[gG a ha hK<|hR _<|Ar hi];simp only[Aa];have q:=M5 (body:=λs:List Bool×Int=>G6 ((List.range a.Knots.length).map<|MO a.Knots R[i]) s.1 s.2) (λl i=>(l,i)) (λk x=>x||MO a.Knots R[i] k) o
    (λk l x hl c d=>by grind [Gk,Ao,Eh,ad1,G6])
    (λl hl=>by grind [Gk,G6])
   rw[q,Aa,ad1,ho,dN]
   grind [Dm])
  (λo ho=>⟨o,by simp[Dk,EK],by rw[ho,AP<|by omega];rfl⟩) (s:=List.replicate a.Knots.length false) (by grind [L4,ES])
 grind
def SA (K:Ks) (R:List Int) (i:Nat):List Int:=(List.range K.length).map λ(j:Nat)=>if j<i/\Cm K R j=true then(fS K R j:Int)else 0
theorem YP (a:Arena) (ha:a.Knots.length<=1048576) (hK:Cl a.Knots=true) (R:List Int) (hR:∀r∈R,CN a.Knots r=true):
  Ai (λs:List Int×Int×List Bb=>EJ a ((List.range a.Knots.length).map (Cm a.Knots R)) s.1 s.2.1 s.2.2) (List.replicate a.Knots.length 0,0,[])=some (SA a.Knots R a.Knots.length,ST a.Knots R):=by
 obtain⟨b,h1,h2⟩:=A9 (body:=λs:List Int×Int×List Bb=>EJ a ((List.range a.Knots.length).map<|Cm a.Knots R) s.1 s.2.1 s.2.2) (λ(o:List Int×List Bb) i=>(o.1,i,o.2)) a.Knots.length
  (λi o=>o=(SA a.Knots R i,((List.range i).filter<|Cm a.Knots R).map<|WM a.Knots R)) (λb=>b=(SA a.Knots R a.Knots.length,ST a.Knots R))
  (λo i hi ho=>by
   subst ho;simp only[EJ,D6 hi];rw[Ao,LY hi];simp only[Aa]
   cases hu:Cm a.Knots R i with
   |false=>grind [ad1,Dy,SA]
   |true=>
    simp only[Al,Ad];have h0:(0:Int)<=(i:Int):=by omega
    have d:(i:Int)<(a.Knots.length:Int):=by omega
    rw[GV h0 d];obtain⟨h4,hk⟩:=E7 hK h0 d;simp only[Aa];rw[Ku<|by omega];simp only[Aa];have inner:Ai (λs:Int×List Int=>EI (SA a.Knots R i) ((Bz a.Knots (i:Int)).Leaf,(Bz a.Knots (i:Int)).Kids) s.1 s.2) (0,(Bz a.Knots (i:Int)).Kids)=some (WM a.Knots R i).Kids:=by
     unfold WM
     cases hl:(Bz a.Knots (i:Int)).Leaf with
     |true=>rw[Au];rfl
     |false=>
      have q:=M5 (body:=λs:Int×List Int=>EI (SA a.Knots R i) (false,(Bz a.Knots (i:Int)).Kids) s.1 s.2) (λl k=>(k,l)) (λ_ x=>PL a.Knots R x) (Bz a.Knots (i:Int)).Kids
       (λk l x g h j=>by
        have m:k<4:=by grind
        have ex:x=ND (Bz a.Knots (i:Int)) k:=by grind
        simp only[EI];rw[Ac (by omega:(k:Int)<4)];simp only[An,Aa,BW];rw[Ao,h];simp only[Aa]
        rcases Fi hK h0 d hl m with e|⟨e1,e2,e3⟩
        ·rw[cF,ad1];have:PL a.Knots R x=x:=by unfold PL;omega
         rw[this,show l.set k x=l from by
          apply BU
          grind]
        rw[cT];obtain⟨c,hc⟩:∃c:Nat,x=(c:Int):=⟨x.toNat,by omega⟩;have n:x∈(Bz a.Knots (i:Int)).Kids:=Ap j;have f:=SK (WC hK hR hu hl) h0 n (by omega);rw[hc]at f;rw[hc,Ao];unfold SA;rw[LY (by omega),Aa,B3 ⟨by omega,f⟩,Eh,ad1]
        rfl)
       (λl g=>by grind [EI])
      grind [HI]
    rw[inner];simp only[Aa];have p:gi (SA a.Knots R i) (i:Int)=some 0:=by grind [Ao,SA]
    rw[p];simp only[Aa];have u:=AAO (K:=a.Knots) (R:=R) i;have t:(((List.range i).filter<|Cm a.Knots R).map<|WM a.Knots R).length=fS a.Knots R i:=by rw[Bt];rfl
    rw[Bq (by grind),Aa,ad1,Bi,t,Eh];refine .inl ⟨(_,_),rfl,?_⟩;congr 1
    ·grind [NO,SA]
    rw[Dy,BN,HS hu,List.filter_nil,IC]
    rfl)
  (λo ho=>⟨o,by simp[Dk,EJ],ho⟩) (s:=(List.replicate a.Knots.length 0,[])) (by grind [L4,ES,SA])
 grind
theorem lJ (a:Arena) (ha:a.Knots.length<=1048576) (R:List Int) (hc:R.length<=1048576) (hR:∀r∈R,CN a.Knots r=true):
  Ai (λs:List Int×Int=>EH (SA a.Knots R a.Knots.length,ST a.Knots R) s.1 s.2) (R,0)=some (R.map (PL a.Knots R)):=by
 have q:=M5 (body:=λs:List Int×Int=>EH (SA a.Knots R a.Knots.length,ST a.Knots R) s.1 s.2) (λl k=>(l,k)) (λ_ x=>PL a.Knots R x) R
  (λk l x h b d=>by
   have i:=(Ae.1 b).1;simp only[EH,D6 i,Ao,b,Aa]
   rcases B5 (hR x<|Ap d)with e|⟨e1,e2,e3⟩
   ·rw[cF,ad1];have:PL a.Knots R x=x:=by unfold PL;omega
    rw[this,show l.set k x=l from by
     apply BU
     grind]
   rw[cT];obtain⟨c,f⟩:∃c:Nat,x=(c:Int):=⟨x.toNat,by omega⟩;have g:=NG (K:=a.Knots) (Ap d) e1;rw[f]at g;rw[f,Ao];unfold SA;rw[LY (by omega),Aa,B3 ⟨by omega,g⟩,Eh,ad1]
   rfl)
  (λl h=>by grind [Bi,EH])
 grind [HI]
theorem WX (a:Arena) (ha:a.Knots.length<=1048576) (hK:Cl a.Knots=true) (R:List Int) (hc:R.length<=1048576) (hR:∀r∈R,CN a.Knots r=true):
  Jn a R=some (Arena.mk (ST a.Knots R),R.map (PL a.Knots R)):=by
 unfold Jn;rw[Ku (by omega),Jy a ha,hK];simp only[Aa];rw[YO a ha R hc hR];rw[Bi,X4 (by omega)<|by omega];simp only[Aa];rw[cK a ha hK R hc hR];rw[X4 (by omega)<|by omega];simp_all [YP,lJ]
theorem Yd (p:Nat->Bool) (hp:p i=true):∀{n:Nat},i<n->((List.range n).filter p)[((List.range i).filter p).length]?=some i
 |0,h=>by omega
 |n+1,h=>by
  rw[Dy,BN];by_cases e:i=n
  ·grind
  have h2:=Yd p hp<|show i<n by omega
  grind
theorem wH {n:Nat} (p:Nat->Bool) (hp:p i=true) (h:i<n):((List.range i).filter p).length<((List.range n).filter p).length:=(Ae.1<|Yd p hp h).1
theorem i9 (p:Nat->Bool):∀{n j:Nat},j<((List.range n).filter p).length->∃i,i<n/\p i=true/\((List.range i).filter p).length=j
 |0,j,h=>by simp at h
 |n+1,j,h=>by
  rw[Dy,BN,A4]at h;by_cases e:j<((List.range n).filter p).length
  ·obtain⟨i,h1,h2,h3⟩:=i9 p e
   grind
  grind
theorem oV:(ST K R).length=fS K R K.length:=by unfold ST fS;rw[Bt]
theorem QW (hu:Cm K R i=true) (hi:i<K.length):Bz (ST K R) (fS K R i:Nat)=WM K R i/\fS K R i<(ST K R).length:=by grind [Ao,Yd,fS,ST,Bz]
theorem tB (hj:j<(ST K R).length):∃i,i<K.length/\Cm K R i=true/\fS K R i=j:=by
 rw[oV]at hj;exact i9 (Cm K R) hj
theorem AB6 (hu:Cm K R i=true) (h:i<j):fS K R i<fS K R j:=wH _ hu h
theorem WL (i:Nat):(WM K R i).Leaf=(Bz K (i:Int)).Leaf:=rfl
theorem oT (hK:Cl K=true) (hi:i<K.length):(WM K R i).Kids.length=4:=by grind [Fz,WM]
theorem oU (hl:(Bz K (i:Int)).Leaf=false) (hj:j<(Bz K (i:Int)).Kids.length):ND (WM K R i) j=PL K R (ND (Bz K (i:Int)) j):=by
 unfold ND WM
 grind
theorem RH (hl:(Bz K (i:Int)).Leaf=true):(WM K R i).Kids=(Bz K (i:Int)).Kids:=by grind [WM]
theorem Wk (h:n<0):PL K R n=n:=by unfold PL;omega
theorem Rf (n:Nat):PL K R (n:Int)=(fS K R n:Int):=by rfl
theorem ABa (hK:Cl K=true) (hR:∀r∈R,CN K r=true):Cl (ST K R)=true:=by
 rw[Fz];intro j hj;obtain⟨i,hi,hu,rfl⟩:=tB hj;rw[(QW hu hi).1];refine⟨oT hK hi,λn hn=>?_⟩;have h0:(0:Int)<=(i:Int):=by omega
 have h1:(i:Int)<(K.length:Int):=by omega
 obtain⟨h4,hk⟩:=E7 hK h0 h1;rw[WL]
 cases hl:(Bz K (i:Int)).Leaf with
 |true=>grind [RH,Fz,PN]
 |false=>
  obtain⟨m,hm,b⟩:=Av hn;rw[oT hK hi]at hm;have e:n=PL K R (ND (Bz K (i:Int)) m):=by
   rw[<-oU hl (by omega),<-b]
   grind [ND]
  rcases Fi hK h0 h1 hl hm with k1|⟨k1,k2,k3⟩
  ·rw[k1,Wk<|by omega]at e;subst e;rfl
  obtain⟨c,hc⟩:∃c:Nat,ND (Bz K (i:Int)) m=(c:Int):=⟨_,(AL k1).symm⟩;rw[hc]at e k2 k3;rw[Rf]at e;have a:=SK (WC hK hR hu hl) h0 (Ap (hk m hm).1) (by omega);rw[hc]at a;have d:c<K.length:=by omega
  have f:fS K R c<fS K R i:=AB6 (by simpa using a)<|by omega
  grind [QW,WL,PN]
theorem uE (hR:∀r∈R,CN K r=true) (hr:r∈R):CN (ST K R) (PL K R r)=true:=by
 rcases B5 (hR r hr)with e|⟨h0,h1,hl⟩
 ·rw[e,Wk<|by omega];rfl
 obtain⟨c,rfl⟩:∃c:Nat,r=(c:Int):=⟨_,(AL h0).symm⟩
 grind [NG,Ci,QW,Rf,WL,CN]
theorem pE (hK:Cl K=true) (hR:∀r∈R,CN K r=true) (hr:r∈R):EF (ST K R) (PL K R r)=EF K r:=by
 unfold EF;apply DY;intro s hs;rw[Zw]at hs;unfold PI
 rcases B5 (hR r hr)with e|⟨h0,h1,hl⟩
 ·grind [Wk]
 obtain⟨c,rfl⟩:∃c:Nat,r=(c:Int):=⟨_,(AL h0).symm⟩;have a:=NG (K:=K) hr h0;rw[Ci]at a;obtain⟨g1,g2⟩:=QW a (by omega);obtain⟨h4,hk⟩:=E7 hK h0 h1;rw[Rf,g1,oU hl<|by omega];simp only[Bc (show¬((fS K R c:Nat):Int)<0 by omega),Bc<|show¬((c:Nat):Int)<0 by omega]
 rcases Fi hK h0 h1 hl (show s/4<4 by omega)with k1|⟨k1,k2,k3⟩
 ·grind [Wk]
 obtain⟨d,hd⟩:∃d:Nat,ND (Bz K (c:Int)) (s/4)=(d:Int):=⟨_,(AL k1).symm⟩;have b:=SK hr h0 (Ap (hk (s/4)<|by omega).1) k1
 grind [Rf,QW,RH,ND]
theorem yN (hK:Cl K=true) (hR:∀r∈R,CN K r=true) (hj:j<(ST K R).length):Cm (ST K R) (R.map (PL K R)) j=true:=by
 obtain⟨i,hi,hu,rfl⟩:=tB hj;have hu':=hu;unfold Cm at hu';rw[Ex]at hu';obtain⟨r,hr,h⟩:=hu';unfold MO at h;simp only[Ak,GO,Bf,Ex]at h;obtain⟨h0,h⟩:=h;unfold Cm;rw[Ex];refine⟨PL K R r,A7.2 ⟨r,hr,rfl⟩,?_⟩;obtain⟨c,rfl⟩:∃c:Nat,r=(c:Int):=⟨_,(AL h0).symm⟩;rw[Rf];unfold MO;simp only[Ak,GO,Bf,Ex];refine⟨by omega,?_⟩
 rcases h with h|⟨n,hn,h⟩
 ·grind
 right
 rcases B5 (hR _ hr)with e|⟨_,h1,hl⟩
 ·omega
 grind [NG,Ci,QW,Rf,WM]
theorem Qx {i:Int} (h0:0<=i) (h:i<(K.length:Int)):Bz (K++X) i=Bz K i:=by
 obtain⟨c,rfl⟩:∃c:Nat,i=(c:Int):=⟨_,(AL h0).symm⟩
 grind [Ao,Bz]
theorem uA (h:CN K r=true):CN (K++X) r=true:=by grind [Qx,CN]
theorem pA (hK:Cl K=true) (h:CN K r=true):EF (K++X) r=EF K r:=by grind [DY,B5,Qx,Fi,EF,PI]
theorem aW {s:Nat} (hK:Cl K=true) (hr:CN K r=true) (hs:s<16) (n:Int):(PD K r s n).length=4:=by grind [B5,Fi,E7,PD]
theorem fX (hK:Cl K=true) (hr:CN K r=true) (s:Nat):(SO K r s).length=4:=by grind [B5,E7,SO]
theorem UH {s:Nat}:Bz (Ja K r s n) (K.length:Int)=Bb.mk true (PD K r s n):=by grind [Ao,Bz,Ja]
theorem UG {s:Nat}:Bz (Ja K r s n) ((K.length:Int)+1)=Bb.mk false (SO K r s):=by
 unfold Bz Ja;rw[show(K.length:Int)+1=((K.length+1:Nat):Int)from rfl,Ao,Da (by omega),show K.length+1-K.length=1 by omega];rfl
theorem ABk {s:Nat} (hK:Cl K=true) (hr:CN K r=true) (hs:s<16) (hn:0<=n):Cl (Ja K r s n)=true:=by
 rw[Fz];intro j hj;have a:(Ja K r s n).length=K.length+2:=by unfold Ja;simp
 rw[a]at hj;by_cases h:j<K.length
 ·grind [Qx,Fz,Ja,PN]
 by_cases e:j=K.length
 ·subst e;rw[UH];refine⟨aW hK hr hs n,λm hm=>?_⟩;simp only[PN,An,Bf]
  rcases CA hm with hm|hm
  ·rcases B5 hr with e|⟨h0,h1,hl⟩
   ·grind
   rw[Bc<|by omega]at hm
   rcases Fi hK h0 h1 hl (show s/4<4 by omega)with k1|⟨k1,k2,k3⟩
   ·grind
   rw[Bc<|by omega]at hm;have hq:=Fz.1 hK (ND (Bz K r)<|s/4).toNat<|by omega
   grind [PN]
  omega
 have:j=K.length+1:=by omega
 subst this;rw[show((K.length+1:Nat):Int)=(K.length:Int)+1 from rfl,UG];refine⟨fX hK hr s,λm hm=>?_⟩;simp only[PN,Ad,GO,LP,Ak,Bf]
 rcases CA hm with hm|hm
 ·rcases B5 hr with e|⟨h0,h1,hl⟩
  ·grind
  rw[Bc<|by omega]at hm;obtain⟨q,hq,rfl⟩:=Av hm;obtain⟨h4,hk⟩:=E7 hK h0 h1;have e5:=(hk q<|by omega).1
  grind [Fi,Qx,Ja]
 grind [UH]
theorem rD {s:Nat}:CN (Ja K r s n) ((K.length:Int)+1)=true:=by grind [UG,CN,Ja]
theorem pJ {s:Nat} (hK:Cl K=true) (hr:CN K r=true) (hs:s<16):EF (Ja K r s n) ((K.length:Int)+1)=(EF K r).set s n:=by
 unfold EF;symm;apply NO;intro t ht;unfold PI;rw[UG];simp only[Bc<|show¬((K.length:Int)+1)<0 by omega];have a:=fX hK hr s;have b:=aW hK hr hs n;by_cases hq:t/4=s/4
 ·have e1:ND (Bb.mk false<|SO K r s) (t/4)=(K.length:Int):=by grind [ND,SO]
  rw[e1,Bc (by omega),UH];have e2:ND (Bb.mk true<|PD K r s n) (t %4)=if t %4=s %4 then n else(if r<0 then 0 else if ND (Bz K r) (s/4)<0 then 0 else ND (Bz K<|ND (Bz K r)<|s/4)<|t %4):=by grind [ND,PD]
  grind
 rw[Bc<|show¬t=s by omega];have e1:ND (Bb.mk false<|SO K r s) (t/4)=if r<0 then-1 else ND (Bz K r) (t/4):=by grind [ND,SO]
 rw[e1]
 grind [B5,Fi,Qx,Ja]
def Lt (n:Nat) (p:Nat->Bool):Nat:=((List.range n).filter p).length
theorem R2 (n:Nat) (p:Nat->Bool):Lt (n+1) p=Lt n p+(if p n=true then 1 else 0):=by grind [Dy,Lt]
theorem Wz (p q:Nat->Bool):∀n,Lt n (λj=>p j||q j)<=Lt n p+Lt n q
 |0=>by simp[Lt]
 |n+1=>by
  have:=Wz p q n
  grind [R2]
theorem Ym (x:Int):∀n,Lt n (λj=>decide (x=(j:Int)))<=1/\(x>=(n:Int)->Lt n (λj=>decide (x=(j:Int)))=0)
 |0=>by simp[Lt]
 |n+1=>by
  obtain⟨h1,h2⟩:=Ym x n
  grind [R2]
theorem wN (l:List Int) (n:Nat):Lt n (λj=>l.any λx=>decide (x=(j:Int)))<=l.length:=by
 induction l with
 |nil=>simp[Lt]
 |cons x l ih=>
  simp only[List.any_cons,AB];have:=Wz (λj=>decide<|x=(j:Int)) (λj=>l.any λx=>decide<|x=(j:Int)) n;have:=(Ym x n).1;omega
theorem AAi {n:Nat} {q:Nat->Bool} (h:∀j,j<n->p j=true->q j=true):Lt n p<=Lt n q:=by
 induction n with
 |zero=>simp[Lt]
 |succ n ih=>grind [R2]
theorem jG {n:Nat} (h:∀j,j<n->p j=true):Lt n p=n:=by
 induction n with
 |zero=>rfl
 |succ n ih=>grind [R2]
theorem AAa (hK:Cl K=true) (hr:CN K r=true) (n:Nat):Lt n (MO K r)<=5:=by
 have h1:=Wz (λj=>decide<|r=(j:Int)) (λj=>(Bz K r).Kids.any λn=>decide<|n=(j:Int)) n;have h2:=(Ym r n).1;have h3:=wN (Bz K r).Kids n
 have h4:Lt n (MO K r)<=Lt n (λj=>decide (r=(j:Int))||(Bz K r).Kids.any λn=>decide<|n=(j:Int)):=AAi λj _ h=>by grind [MO]
 rcases B5 hr with e|⟨h0,hl,_⟩
 ·have:Lt n (MO K r)=Lt n (λ_=>false):=by rw[e];rfl
  simp_all;grind
 grind [E7]
theorem WD (hK:Cl K=true) (n:Nat):∀(R:List Int),(∀r∈R,CN K r=true)->Lt n (Cm K R)<=5*R.length
 |[],_=>by simp[Lt,Cm]
 |r::R,h=>by
  have h1:=WD hK n R (λx hx=>h x<|by simp[hx]);have h2:=AAa hK (h r<|by simp) n;have h3:=Wz (MO K r) (Cm K R) n;have h4:Lt n (Cm K (r::R))=Lt n (λj=>MO K r j||Cm K R j):=rfl
  grind
theorem qR (hK:Cl K=true) (hR:∀r∈R,CN K r=true):(ST K R).length<=5*R.length:=by
 rw[oV];exact WD hK _ R hR
def Be (s:Store):List Int:=s.Vols.map Vol.Root
structure StoreR (s:Store):Prop where
 len:s.Vols.length<=3
 ar:Cl s.Arena.Knots=true
 nx:1<=s.Next/\s.Next<=1000000000
 ids:∀v∈s.Vols,1<=v.Id/\v.Id<=9
 asc:(s.Vols.map Vol.Id).Pairwise (·<·)
 root:∀r∈Be s,CN s.Arena.Knots r=true
 lt:∀r∈Be s,∀x∈EF s.Arena.Knots r,x<s.Next
 few:s.Arena.Knots.length<=1000
structure BR (s:Store):Prop extends StoreR s where
 used:∀i,i<s.Arena.Knots.length->Cm s.Arena.Knots (Be s) i=true
theorem BR.small (h:BR s):s.Arena.Knots.length<=15:=by
 have h1:=WD h.ar s.Arena.Knots.length (Be s) h.root;rw[jG h.used]at h1;have:(Be s).length=s.Vols.length:=by unfold Be;rw[Bt]
 have:=h.len;omega
def AO (s:Store):List (Int×List Int):=s.Vols.map λv=>(v.Id,EF s.Arena.Knots v.Root)
def JY (s:Store):Store:=Store.mk (s.Vols.map λv=>Vol.mk v.Id<|PL s.Arena.Knots (Be s) v.Root) (Arena.mk<|ST s.Arena.Knots<|Be s) s.Next
theorem OC (s:Store):Be (JY s)=(Be s).map (PL s.Arena.Knots (Be s)):=by simp[Be,JY]
theorem oS (h:StoreR s):BR (JY s):=by
 have b:(Be s).length=s.Vols.length:=by unfold Be;rw[Bt]
 refine⟨⟨by unfold JY;simpa using h.len,ABa h.ar h.root,h.nx,?_,?_,?_,?_,?_⟩,?_⟩
 ·intro v hv;unfold JY at hv;simp only[A7]at hv;obtain⟨w,hw,rfl⟩:=hv;exact h.ids w hw
 ·have:((JY s).Vols.map Vol.Id)=s.Vols.map Vol.Id:=by unfold JY;simp
  rw[this];exact h.asc
 ·intro r hr;rw[OC]at hr;obtain⟨q,hq,rfl⟩:=A7.1 hr;exact uE h.root hq
 ·intro r hr;rw[OC]at hr;obtain⟨q,hq,rfl⟩:=A7.1 hr;have:=pE h.ar h.root hq;intro x hx;have a:x∈EF s.Arena.Knots q:=by rw[<-this];exact hx
  exact h.lt q hq x a
 ·have:=qR h.ar h.root;have:=h.len;show(ST s.Arena.Knots<|Be s).length<=1000;omega
 intro i hi;rw[OC];exact yN h.ar h.root hi
theorem ZF (h:StoreR s):AO (JY s)=AO s:=by
 unfold AO;show(s.Vols.map λv=>Vol.mk v.Id<|PL s.Arena.Knots (Be s) v.Root).map _=_;rw[GR];apply DY;intro v hv;have:=pE h.ar h.root<|show v.Root∈Be s from A7.2 ⟨v,hv,rfl⟩;show(v.Id,EF (ST s.Arena.Knots<|Be s)<|PL s.Arena.Knots (Be s) v.Root)=_;rw[this]
theorem RI (s:Store) (hv:s.Vols.length<=1048576):Mq s=some (Be s):=by
 unfold Mq;obtain⟨b,h1,h2⟩:=A9 (body:=λq:List Int×Int=>Ic s q.1 q.2) (λ(o:List Int) i=>(o,i)) s.Vols.length (λi o=>o=(s.Vols.take i).map Vol.Root) (λb=>b=Be s)
  (λo i hi ho=>by
   have hx:=Ab hi;simp only[Ic,D6 hi,Ao,hx,Aa]
   grind [Bq,ad1,Dm])
  (λo ho=>⟨o,by simp[Dk,Ic],by rw[ho,AP<|Ay _];rfl⟩) (s:=[]) rfl
 grind
theorem K1 (h:StoreR s):Gr s=some (JY s):=by
 have hl:=h.len;have hf:=h.few;have c:(Be s).length=s.Vols.length:=by unfold Be;rw[Bt]
 unfold Gr;rw[RI s<|by omega];simp only[Aa];rw[WX _ (by omega) h.ar _ (by omega) h.root];rw[Ku<|by omega];simp only[Aa];have q:=M5 (body:=λq:Int×List Vol=>Ib ((Be s).map<|PL s.Arena.Knots<|Be s,ST s.Arena.Knots<|Be s) q.1 q.2) (λl i=>(i,l)) (λ_ v=>Vol.mk v.Id<|PL s.Arena.Knots (Be s) v.Root) s.Vols
  (λi l x a b d=>by
   have hi:=(Ae.1 b).1;simp only[Ib,D6 hi]
   grind [Ao,Eh,ad1,Be])
  (λl a=>by grind [Bi,Ib])
 rw[HI]at q;rw[q];rfl
theorem WJ (h:BR s):JY s=s:=by
 have d:∀i,i<=s.Arena.Knots.length->fS s.Arena.Knots (Be s) i=i:=λi hi=>jG λj hj=>h.used j<|by omega
 have b:∀n:Int,n<(s.Arena.Knots.length:Int)->PL s.Arena.Knots (Be s) n=n:=λn hn=>by
  unfold PL
  grind
 have a:∀r∈Be s,PL s.Arena.Knots (Be s) r=r:=λr hr=>by
  rcases B5 (h.root r hr)with e|⟨h0,h1,_⟩
  ·grind
  exact b r h1
 have c:ST s.Arena.Knots (Be s)=s.Arena.Knots:=by
  unfold ST;rw[F6.2 λi hi=>h.used i<|by simpa using hi];apply BU;intro i;rw[Je];by_cases hi:i<s.Arena.Knots.length
  ·rw[List.getElem?_range hi,Ab hi];simp only[L3];congr 1;have h0:(0:Int)<=(i:Int):=by omega
   have h1:(i:Int)<(s.Arena.Knots.length:Int):=by omega
   unfold WM
   cases hl:(Bz s.Arena.Knots (i:Int)).Leaf with
   |true=>
    simp only[An];rw[<-hl,NU hi]
   |false=>
    simp only[Ad];have:(Bz s.Arena.Knots (i:Int)).Kids.map (PL s.Arena.Knots<|Be s)=(Bz s.Arena.Knots (i:Int)).Kids:=by
     conv=>rhs;rw[<-SE (Bz s.Arena.Knots (i:Int)).Kids]
     apply DY;intro n hn;obtain⟨q,hq,rfl⟩:=Av hn;obtain⟨h4,hk⟩:=E7 h.ar h0 h1;have e5:=(hk q<|by omega).1;rw[Ab hq]at e5
     injection e5 with e5
     rw[e5]
     rcases Fi h.ar h0 h1 hl (show q<4 by omega)with k1|⟨k1,k2,k3⟩
     ·grind
     grind
    rw[this,<-hl,NU hi]
  grind
 unfold JY;rw[c];have:(s.Vols.map λv=>Vol.mk v.Id<|PL s.Arena.Knots (Be s) v.Root)=s.Vols:=by
  conv=>rhs;rw[<-SE s.Vols]
  apply DY;intro v hv;rw[a _<|A7.2 ⟨v,hv,rfl⟩];rfl
 rw[this]
theorem Yp {s:Nat} (hs:s<16):PI K r s∈EF K r:=A7.2 ⟨s,by simpa using hs,rfl⟩
theorem Qq {l:List Int} {y:Int} (h:l.Pairwise (·<·)) (a:i<j) (hx:l[i]?=some x) (hy:l[j]?=some y):x<y:=by grind [Di]
theorem Qc (h:BR s):NL s=some true:=by
 have hl:=h.len;have hf:=h.few;have d:(Be s).length=s.Vols.length:=by unfold Be;rw[Bt]
 unfold NL;rw[Bi,cF,Jy _ (by omega),h.ar,Dx,Ac h.nx];obtain⟨b,h1,h2⟩:=A9 (body:=λq:Int=>Jp s q) (λ(_:Unit) i=>i) s.Vols.length (λ_ _=>True) (λb=>b= .inl ())
  (λ_ i hi _=>by
   have hx:=Ab hi;have hm:s.Vols[i]∈s.Vols:=Ar hi;have hr:s.Vols[i].Root∈Be s:=A7.2 ⟨_,hm,rfl⟩;simp only[Jp,D6 hi,Ao,hx,Aa];rw[Dx,Ac<|h.ids _ hm,LB _ (by omega),h.root _ hr];simp only[Aa,Al,Ad];have a:(cond (decide<|(i:Int)>0) ((gi s.Vols<|sb (i:Int) 1).bind λx2=>cond (decide<|x2.Id>=s.Vols[i].Id) (some true)<|some false) (some false):Option Bool)=some false:=by
    by_cases h0:i=0
    ·rw[cF]
    rw[cT,BC,show(i:Int)-1=((i-1:Nat):Int) by omega,Ao,Ab<|by omega];simp only[Aa];have:=Qq h.asc (show i-1<i by omega) (x:=s.Vols[i-1].Id) (y:=s.Vols[i].Id) (by grind) (by grind);rw[cF]
   rw[a];obtain⟨c,q1,q2⟩:=A9 (body:=λq:Int=>LC s s.Vols[i] q) (λ(_:Unit) i=>i) 16 (λ_ _=>True) (λb=>b= .inl ())
    (λ_ k hk _=>by
     simp only[LC];rw[cT,Vm _ h.ar (h.root _ hr) hk];simp only[Aa];have:=h.lt _ hr _<|Yp hk;rw[cF,ad1]
     simp)
    (λ_ _=>⟨_,by rfl,rfl⟩) (s:=()) trivial
   rw[q1,q2];rw[ad1]
   simp)
  (λ_ _=>⟨_,by simp[Dk,Jp],rfl⟩) (s:=()) trivial
 rw[h1,h2];simp only[Aa,CL];rw[RI s (by omega),Aa,WX _ (by omega) h.ar _ (by omega) h.root];have:ST s.Arena.Knots (Be s)=s.Arena.Knots:=by
  have:=WJ h
  grind [JY]
 rw[this];simp
abbrev Vs:=List<|Int×List Int
def JG (l:Vs) (id:Int):Option (List Int):=(l.find? λp=>p.1==id).map Prod.snd
def mP (l:Vs) (id:Int) (a:List Int):Vs:=(l.filter λp=>decide<|p.1<id)++ [(id,a)]++l.filter λp=>decide<|p.1>id
def AC6 (l:Vs) (id:Int):Vs:=l.filter λp=>p.1 !=id
def lF (l:Vs) (id:Int) (s:Nat) (n:Int):Vs:=l.map λp=>if p.1=id then(p.1,p.2.set s n)else p
def EG (r:BS):Bool:=decide (0<=r.Arg/\r.Arg<=1000000000)&&(bif r.Kind==1 then r.Vol==0&&r.Chunk==0 else decide (2<=r.Kind/\r.Kind<=5)&&decide (1<=r.Vol/\r.Vol<=9)&&(r.Kind==4||r.Chunk==0)&&
 (bif r.Kind==2 then decide (r.Arg<=9)else bif r.Kind==3 then r.Arg==0 else bif r.Kind==4 then decide (r.Arg<16)&&decide (1<=r.Chunk/\r.Chunk<=1000000000)else decide (r.Arg<16)))
def P7:List Int:=List.replicate 16 0
def C3 (l:Vs) (nx:Int) (r:BS):Option (Vs×Int):=if EG r=false then none else if r.Kind=1 then some ([],if r.Arg=0 then 1 else r.Arg) else if r.Kind=2 then
  if(0<r.Arg/\JG l r.Arg=none)\/JG l r.Vol≠none\/l.length=3 then none else some (mP l r.Vol (if 0<r.Arg then(JG l r.Arg).getD P7 else P7),nx) else if JG l r.Vol=none\/r.Chunk=1000000000 then none else if r.Kind=3 then some (AC6 l r.Vol,nx) else some (lF l r.Vol r.Arg.toNat r.Chunk,max nx<|r.Chunk+1)
theorem LU (r:BS):Nf r=some (EG r):=by
 unfold Nf EG;simp only[Dx,Aa]
 grind
theorem DZ (s:Store) (hv:s.Vols.length<=1048576) (id:Int):(CB s id=some (-1)/\∀v∈s.Vols,v.Id≠id)\/∃k:Nat,∃v,CB s id=some (k:Int)/\s.Vols[k]?=some v/\v.Id=id/\∀j w,j<k->s.Vols[j]?=some w->w.Id≠id:=by
 unfold CB;obtain⟨b,h1,h2⟩:=A9 (body:=λq:Int=>Gs s id q) (λ(_:Unit) i=>i) s.Vols.length (λi _=>∀j w,j<i->s.Vols[j]?=some w->w.Id≠id)
  (λb=>(b= .inl ()/\∀v∈s.Vols,v.Id≠id)\/∃k:Nat,∃v,b= .inr (k:Int)/\s.Vols[k]?=some v/\v.Id=id/\∀j w,j<k->s.Vols[j]?=some w->w.Id≠id)
  (λ_ i hi hs=>by
   have hx:=Ab hi;simp only[Gs,D6 hi,Ao,hx,Aa]
   cases e:(s.Vols[i].Id==id)with
   |true=>grind
   |false=>
    rw[ad1];refine .inl ⟨(),rfl,λj w hj hw=>?_⟩
    grind)
  (λ_ hs=>⟨_,by simp[Dk,Gs],.inl ⟨rfl,λv hv=>by
   obtain⟨j,hj,rfl⟩:=Av hv
   simp_all⟩⟩) (s:=()) (λj w hj=>by omega)
 grind
theorem Kr {id:Int}:(∀v∈s.Vols,v.Id≠id)↔JG (AO s) id=none:=by
 unfold JG AO;simp
theorem AAo {w:Vol} (h:(s.Vols.map Vol.Id).Pairwise (·<·)) (hv:v∈s.Vols) (hw:w∈s.Vols) (e:v.Id=w.Id):v=w:=by
 obtain⟨i,hi,rfl⟩:=Av hv;obtain⟨j,hj,rfl⟩:=Av hw;have gi:(s.Vols.map Vol.Id)[i]?=some s.Vols[i].Id:=by grind
 have gj:(s.Vols.map Vol.Id)[j]?=some s.Vols[j].Id:=by grind
 rcases SD i j with h1|h1|h1
 ·have:=Qq h h1 gi gj;omega
 ·subst h1;rfl
 have:=Qq h h1 gj gi;omega
theorem NZ (h:(s.Vols.map Vol.Id).Pairwise (·<·)) (hv:v∈s.Vols):JG (AO s) v.Id=some (EF s.Arena.Knots v.Root):=by
 unfold JG;have hm:(v.Id,EF s.Arena.Knots v.Root)∈AO s:=A7.2 ⟨v,hv,rfl⟩
 cases hf:(AO s).find? λp=>p.1==v.Id with
 |none=>grind
 |some p=>
  have h1:=List.find?_some hf;have h2:=List.mem_of_find?_eq_some hf;obtain⟨w,hw,rfl⟩:=A7.1 h2
  grind [AAo]
theorem Iu (s:Store):(AO s).length=s.Vols.length:=by unfold AO;rw[Bt]
theorem gV (K:Ks):EF K (-1)=P7:=by rfl
theorem nT (s:Store) (p:Int->Bool) (t:Store) (hk:t.Arena=s.Arena) (hv:t.Vols=s.Vols.filter λv=>p v.Id):AO t=(AO s).filter λq=>p q.1:=by
 unfold AO;rw[hk,hv,List.filter_map];rfl
theorem Rl {body:List Vol×Int->Option ((List Vol×Int)⊕List Vol)} (l:List Vol) (p:Vol->Bool) (o:List Vol) (hM:l.length+o.length<=1048576) (h1:∀(i:Nat) v (a:List Vol),l[i]?=some v->a.length<=1048576->body (a,(i:Int))=some (.inl (bif p v then a++ [v]else a,((i+1:Nat):Int)))) (h2:∀a,body (a,(l.length:Int))=some (.inr a)):
  Ai body (o,0)=some (o++l.filter p):=by
 obtain⟨b,h3,h4⟩:=A9 (body:=body) (λ(q:List Vol) i=>(q,i)) l.length (λi q=>q=o++(l.take i).filter p) (λb=>b=o++l.filter p)
  (λq i hi hq=>by grind [Dm])
  (λq hq=>⟨q,h2 q,by grind⟩) (s:=o) (by simp)
 rw[h3,h4]
theorem vY {R':List Int} (h:∀r∈R,r∈R') (hu:Cm K R i=true):Cm K R' i=true:=by grind [Cm]
theorem WR {l:List Vol} (h:(l.map Vol.Id).Pairwise (·<·)) (v:Vol):(((l.filter λw=>decide (w.Id<v.Id))++ [v]++l.filter λw=>decide (w.Id>v.Id)).map Vol.Id).Pairwise (·<·):=by simp_all [AX];grind
theorem ZL (l:List Vol) (id:Int):(l.filter λw=>decide (w.Id<id)).length+(l.filter λw=>decide (w.Id>id)).length<=l.length:=by
 induction l with
 |nil=>simp
 |cons v l ih=>grind
def K3 (s:Store) (r:BS) (o:Option (Store×Bool)):Prop:=match C3 (AO s) s.Next r with
 |none=>o=some (s,false)
 |some (l,nx)=>∃t,o=some (t,true)/\BR t/\AO t=l/\t.Next=nx
theorem sG {r:BS} (h:BR s) (hr:EG r=true) (hk:r.Kind=2):K3 s r (EZ s r):=by
 have hl:=h.len;have d:=JI h.ar (by have:=h.few;omega);have b:=Fc s d (by omega);have hb:EG r=true:=hr;unfold EG at hr;rw[hk]at hr;simp at hr;unfold K3 C3;rw[hb,hk];simp only[Bool.true_eq_false,mQ,C4,show¬((2:Int)=1) by omega];unfold EZ;have root:(JG (AO s) r.Arg=none/\0<r.Arg/\(cond (decide<|r.Arg>0) ((CB s r.Arg).bind λv1=>cond (decide<|v1<0) ((Dt s).bind λv2=>some<|.inr (v2,false))<|(gi s.Vols v1).bind λx1=>some<|.inl x1.Root) (some<|.inl<|-1):Option (Int⊕(Store×Bool)))=some (.inr (s,false)))\/
   (¬(0<r.Arg/\JG (AO s) r.Arg=none)/\∃q,CN s.Arena.Knots q=true/\(q= -1\/q∈Be s)/\EF s.Arena.Knots q=(if 0<r.Arg then(JG (AO s) r.Arg).getD P7 else P7)/\(cond (decide<|r.Arg>0) ((CB s r.Arg).bind λv1=>cond (decide<|v1<0) ((Dt s).bind λv2=>some<|.inr (v2,false))<|(gi s.Vols v1).bind λx1=>some<|.inl x1.Root) (some<|.inl<|-1):Option (Int⊕(Store×Bool)))=some (.inl q)):=by
  by_cases h0:0<r.Arg
  ·rw[Ac (by omega:r.Arg>0)]
   rcases DZ s (by omega) r.Arg with⟨h1,h2⟩|⟨k,v,h1,h2,h3,_⟩
   ·grind [Kr]
   right;rw[h1];have hm:=Ap h2;have hg:=NZ h.asc hm;refine⟨λhh=>(by grind),v.Root,h.root _<|A7.2 ⟨v,hm,rfl⟩,.inr<|A7.2 ⟨v,hm,rfl⟩,?_,?_⟩
   ·grind
   grind [Ao]
  right;rw[Ah (by omega:¬r.Arg>0),Bc h0];exact⟨λhh=>h0 hh.1,-1,rfl,.inl rfl,gV _,rfl⟩
 rcases root with⟨g1,g2,g3⟩|⟨g1,q,g2,g3,g4,g5⟩
 ·grind
 rw[g5];simp only[Aa,CL]
 rcases DZ s (by omega) r.Vol with⟨h1,h2⟩|⟨k,v,h1,h2,h3,_⟩
 ·rw[h1];rw[Aa,cF,Bi];have j:JG (AO s) r.Vol=none:=Kr.1 h2;by_cases h3:s.Vols.length=3
  ·grind [Iu]
  have e3:((s.Vols.length:Int)==3)=false:=by simp;omega
  rw[e3,Bc<|by grind [Iu]];rw[b];have k1:=Rl (body:=λq:List Vol×Int=>Gh s r q.1 q.2) s.Vols (λv=>decide<|v.Id<r.Vol) [] (by simp;omega)
   (λi v c hv ho=>by
    have hi:=(Ae.1 hv).1;simp only[Gh,D6 hi,Ao,hv,Aa]
    grind [ad1,Bq])
   (λc=>by simp[Dk,Gh])
  rw[Az]at k1;rw[k1];simp only[Aa];have l:=ZL s.Vols r.Vol;rw[Bq (by simp;omega)];simp only[Aa];have k2:=Rl (body:=λq:List Vol×Int=>Gg s r q.1 q.2) s.Vols (λv=>decide<|v.Id>r.Vol) ((s.Vols.filter λv=>decide<|v.Id<r.Vol)++ [Vol.mk r.Vol q]) (by simp;omega)
   (λi v c hv ho=>by
    have hi:=(Ae.1 hv).1;simp only[Gg,D6 hi,Ao,hv,Aa]
    grind [ad1,Bq])
   (λc=>by simp[Dk,Gg])
  rw[k2];have f:((s.Vols.filter λv=>decide<|v.Id<r.Vol)++ [Vol.mk r.Vol q]++s.Vols.filter λv=>decide<|v.Id>r.Vol).length<=3:=by grind
  have g:∀x∈Be s,x∈(Be<|Store.mk ((s.Vols.filter λv=>decide<|v.Id<r.Vol)++ [Vol.mk r.Vol q]++s.Vols.filter λv=>decide<|v.Id>r.Vol) s.Arena s.Next):=by
   intro x hx;obtain⟨v,hv,rfl⟩:=A7.1 hx;refine A7.2 ⟨v,?_,rfl⟩
   grind
  have a:∀x∈(Be<|Store.mk ((s.Vols.filter λv=>decide<|v.Id<r.Vol)++ [Vol.mk r.Vol q]++s.Vols.filter λv=>decide<|v.Id>r.Vol) s.Arena s.Next),x= -1\/x∈Be s:=by
   intro x hx;obtain⟨v,hv,rfl⟩:=A7.1 hx;simp only[A0,AQ,Bl]at hv
   rcases hv with(hv|rfl)|hv
   ·exact .inr<|A7.2 ⟨v,hv.1,rfl⟩
   ·exact g3
   exact .inr<|A7.2 ⟨v,hv.1,rfl⟩
  refine⟨_,rfl,⟨⟨f,h.ar,h.nx,?_,WR h.asc<|Vol.mk r.Vol q,?_,?_,h.few⟩,?_⟩,?_,rfl⟩
  ·intro v hv;simp only[A0,AQ,Bl]at hv
   rcases hv with(hv|rfl)|hv
   ·exact h.ids v hv.1
   ·grind
   exact h.ids v hv.1
  ·intro x hx
   rcases a x hx with e|e
   ·rw[e];rfl
   exact h.root x e
  ·intro x hx
   rcases a x hx with e|e
   ·intro y hy;rw[e]at hy;rw[gV]at hy;have:=EA hy;have:=h.nx
    grind
   exact h.lt x e
  ·intro i hi;exact vY g<|h.used i hi
  rw[<-g4];unfold mP AO;simp only[IC,CF,List.map_nil,List.filter_map];rfl
 rw[h1];have hg:=NZ h.asc<|Ap h2
 grind
theorem RR {f:α->Int} {v:α} (h:(l.map f).Pairwise (·<·)) (hv:l[k]?=some v):l.take k++l.drop (k+1)=l.filter λw=>f w !=f v:=by
 rw[List.pairwise_map]at h;have hk:=(Ae.1 hv).1;have e:l=l.take k++v::l.drop (k+1):=by grind [AA,Ca]
 rw[e,AX]at h;obtain⟨h1,h2,h3⟩:=h;rw[BM]at h2
 conv=>rhs;rw[e]
 rw[BN,HT<|by simp]
 grind [F6]
theorem wJ (h:BR s) (id:Int):StoreR (Store.mk (s.Vols.filter λw=>w.Id !=id) s.Arena s.Next):=by
 have hl:=h.len;refine⟨?_,h.ar,h.nx,λv hv=>h.ids v (AQ.1 hv).1,?_,?_,?_,h.few⟩
 ·grind
 ·have:=h.asc
  grind
 ·intro x hx;obtain⟨w,hw,rfl⟩:=A7.1 hx;exact h.root _<|A7.2 ⟨w,(AQ.1 hw).1,rfl⟩
 intro x hx;obtain⟨w,hw,rfl⟩:=A7.1 hx;exact h.lt _<|A7.2 ⟨w,(AQ.1 hw).1,rfl⟩
theorem AAN {t:Nat} (h:BR s) (h2:s.Vols[k]?=some v) (ht:t<16) (hn:0<=n) (e:n+1<=1000000000):StoreR (Store.mk (s.Vols.set k (Vol.mk v.Id ((s.Arena.Knots.length:Int)+1))) (Arena.mk (Ja s.Arena.Knots v.Root t n)) (max s.Next (n+1))):=by
 have hl:=h.len;have hm:=Ap h2;have a:=h.root _<|A7.2 ⟨v,hm,rfl⟩;have f:=h.small
 have b:∀w∈s.Vols.set k (Vol.mk v.Id<|(s.Arena.Knots.length:Int)+1),w∈s.Vols\/w=Vol.mk v.Id ((s.Arena.Knots.length:Int)+1):=λw hw=>CA hw
 refine⟨by simpa using hl,ABk h.ar a ht hn,?_,?_,?_,?_,?_,?_⟩
 ·have:=h.nx
  grind
 ·intro w hw
  rcases b w hw with hw|rfl
  ·exact h.ids w hw
  exact h.ids v hm
 ·have:(s.Vols.set k<|Vol.mk v.Id<|(s.Arena.Knots.length:Int)+1).map Vol.Id=s.Vols.map Vol.Id:=by
   rw[List.map_set];apply BU
   grind
  rw[this];exact h.asc
 ·intro x hx;obtain⟨w,hw,rfl⟩:=A7.1 hx
  rcases b w hw with hw|rfl
  ·exact uA<|h.root _<|A7.2 ⟨w,hw,rfl⟩
  exact rD
 ·intro x hx y hy;obtain⟨w,hw,rfl⟩:=A7.1 hx;show y<max s.Next (n+1)
  rcases b w hw with hw|rfl
  ·have d:=h.root _<|A7.2 ⟨w,hw,rfl⟩;have c:y∈EF s.Arena.Knots w.Root:=by rw[<-pA (X:=[Bb.mk true<|PD s.Arena.Knots v.Root t n,Bb.mk false<|SO s.Arena.Knots v.Root t]) h.ar d];exact hy
   have:=h.lt _ (A7.2 ⟨w,hw,rfl⟩) y c;omega
  have c:y∈(EF s.Arena.Knots v.Root).set t n:=by rw[<-pJ (s:=t) (n:=n) h.ar a (by omega)];exact hy
  rcases CA c with c|rfl
  ·have:=h.lt _ (A7.2 ⟨v,hm,rfl⟩) y c;omega
  omega
 grind [Ja]
theorem Yh (h:BR s) (r:BS):K3 s r (Rd s r):=by
 have hl:=h.len;have d:=JI h.ar (by have:=h.few;omega);have c:=Fc s d (by omega);unfold Rd;rw[Qc h,LU];simp only[Aa,Al,Ad]
 cases hb:EG r with
 |false=>grind [K3,C3]
 |true=>
  have hr:=hb;unfold EG at hr
  cases k1:(r.Kind==1)with
  |true=>
   have e1:r.Kind=1:=by simpa using k1
   rw[e1]at hr;simp at hr;unfold K3 C3;rw[hb,e1];have:(cond (r.Arg==0) (some 1) (some r.Arg):Option Int)=some (if r.Arg=0 then 1 else r.Arg):=by grind
   rw[this];refine⟨_,rfl,⟨⟨by simp,rfl,?_,by simp,by simp,by simp[Be],by simp[Be],by simp⟩,by simp⟩,rfl,rfl⟩
   grind
  |false=>
   have n1:r.Kind≠1:=by simpa using k1
   rw[k1]at hr
   cases k2:(r.Kind==2)with
   |true=>
    have:=sG h hb (by simpa using k2);have e:((EZ s r).bind λv4=>some (v4.1,v4.2))=EZ s r:=by cases EZ s r<;>rfl
    grind
   |false=>
    have n2:r.Kind≠2:=by simpa using k2
    unfold K3 C3;rw[hb];simp only[Bool.true_eq_false,mQ,Bc n1,Bc n2]
    rcases DZ s (by omega) r.Vol with⟨h1,h2⟩|⟨k,v,h1,h2,h3,_⟩
    ·grind [Kr]
    rw[h1];simp only[Aa];rw[cF];simp only[Aa];have hm:=Ap h2;have f:=(Ae.1 h2).1;have hg:=NZ h.asc hm
    cases hc:(r.Chunk==1000000000)with
    |true=>grind
    |false=>
     have n:r.Chunk≠1000000000:=by simpa using hc
     rw[Bc (by grind),c];simp only[Aa]
     cases k3:(r.Kind==3)with
     |true=>
      have e3:r.Kind=3:=by simpa using k3
      rw[B3 e3];rw[Bi,ad1];have d1:dr s.Vols 0 (k:Int)=some (s.Vols.take k):=by grind [dr]
      have d2:dr s.Vols ((k+1:Nat):Int) (s.Vols.length:Int)=some (s.Vols.drop<|k+1):=by grind [AP,dr]
      rw[d1,d2];simp only[Aa];rw[Ku (by simp;omega)];simp only[Aa];rw[Bq (by simp;omega),RR h.asc h2,h3];simp only[Aa];have hR:=wJ h r.Vol;rw[K1 hR];refine⟨_,rfl,oS hR,?_,rfl⟩;rw[ZF hR];exact nT s (λid=>id !=r.Vol) _ rfl rfl
     |false=>
      have n3:r.Kind≠3:=by simpa using k3
      rw[Bc n3];have ha:0<=r.Arg/\r.Arg<16/\0<=r.Chunk/\r.Chunk<=1000000000:=by grind
      obtain⟨t,ht⟩:∃t:Nat,r.Arg=(t:Int):=⟨_,(AL ha.1).symm⟩;rw[Ao,h2];simp only[Aa];have a:=h.root _<|A7.2 ⟨v,hm,rfl⟩;rw[ht,WZ _ (by have:=h.few;omega) h.ar a (by omega) ha.2.2.1];simp only[Aa];rw[Eh];have hR:=AAN h h2 (show t<16 by omega) ha.2.2.1 (show r.Chunk+1<=1000000000 by omega);have m:AO (Store.mk (s.Vols.set k<|Vol.mk v.Id<|(s.Arena.Knots.length:Int)+1) (Arena.mk<|Ja s.Arena.Knots v.Root t r.Chunk)<|max s.Next<|r.Chunk+1)=lF (AO s) r.Vol t r.Chunk:=by
       unfold AO lF;simp only[GR];apply BU;intro j;rw[Je,Je,List.getElem?_set];by_cases e:k=j
       ·subst e;rw[B3 rfl,B3 f,h2];simp only[L3,Function.comp];rw[B3 h3,pJ h.ar a<|by omega]
       rw[Bc e]
       cases hj:s.Vols[j]? with
       |none=>rfl
       |some w=>
        have g:=Ap hj;have i:w.Id≠r.Vol:=by
         intro e2;have gi:(s.Vols.map Vol.Id)[k]?=some v.Id:=by grind
         have gj:(s.Vols.map Vol.Id)[j]?=some w.Id:=by grind
         rcases SD k j with q|q|q
         ·have:=Qq h.asc q gi gj;omega
         ·exact e q
         grind
        simp only[L3,Function.comp];rw[Bc i];have:=pA (X:=[Bb.mk true<|PD s.Arena.Knots v.Root t r.Chunk,Bb.mk false<|SO s.Arena.Knots v.Root t]) h.ar<|h.root _<|A7.2 ⟨w,g,rfl⟩
        grind [Ja]
      have l:∀b:Bool,b=decide (r.Chunk>=s.Next)->(cond b ((Gr<|Store.mk (s.Vols.set k<|Vol.mk v.Id<|(s.Arena.Knots.length:Int)+1) (Arena.mk<|Ja s.Arena.Knots v.Root t r.Chunk)<|ad r.Chunk 1).bind λv11=>some (v11,true))<|(Gr<|Store.mk (s.Vols.set k<|Vol.mk v.Id<|(s.Arena.Knots.length:Int)+1) (Arena.mk<|Ja s.Arena.Knots v.Root t r.Chunk) s.Next).bind λv12=>some (v12,true))=(Gr<|Store.mk (s.Vols.set k<|Vol.mk v.Id<|(s.Arena.Knots.length:Int)+1) (Arena.mk<|Ja s.Arena.Knots v.Root t r.Chunk)<|max s.Next<|r.Chunk+1).bind λv=>some (v,true):=by grind [BL]
      rw[l _ rfl,K1 hR];refine⟨_,rfl,oS hR,?_,rfl⟩
      grind [ZF]
theorem vG (s:ByteArray) (f a:Int):Oz s f a=Ai (λn:Int=>Fk s a f n) 0:=by
 show(Ai (λn:Int=>Fk s a f n) 0).bind _=_;simp
theorem vF (s:ByteArray) (f a:Nat) (hf:f<a) (ha:a<=(L s).length) (hs:(L s).length<=64):∃k:Nat,Ai (λn:Int=>Fk s (a:Int) (f:Int) n) 0=some (k:Int)/\k<=31/\a+k<=(L s).length:=by
 obtain⟨b,h1,k,rfl,h2,h3⟩:=A9 (body:=λn:Int=>Fk s (a:Int) (f:Int) n) (λ(_:Unit) i=>i) 31 (λi _=>a+i<=(L s).length) (λb=>∃k:Nat,b=(k:Int)/\k<=31/\a+k<=(L s).length)
  (λ_ i hi hs=>by
   simp only[Fk];rw[cT,BL,BL,Bh];by_cases c:a+i<(L s).length
   ·rw[cT];have e1:((f:Int)+(i:Int))=((f+i:Nat):Int):=by omega
    have e2:((a:Int)+(i:Int))=((a+i:Nat):Int):=by omega
    rw[e1,e2,Eg s (by omega),Eg s c];simp only[Aa]
    cases((((L s)[f+i]).toNat:Int)==(((L s)[a+i]).toNat:Int))with
    |true=>
     rw[ad1];exact .inl ⟨(),rfl,by omega⟩
    |false=>grind
   grind)
  (λ_ hs=>by
   simp only[Fk];rw[cF]
   exact⟨_,rfl,31,rfl,by omega,hs⟩) (s:=()) (by omega)
 grind
theorem mL (s:ByteArray) (a:Nat) (ha:a<=(L s).length) (hs:(L s).length<=64):∃z b:Nat,Rn s (a:Int)=some ((z:Int),(b:Int))/\Ai (λq:Int×Int×Int=>Eo s (a:Int) q.1 q.2.1 q.2.2) (0,0,sb (a:Int) 1)=some ((z:Int),(b:Int))/\z<=31/\a+z<=(L s).length/\(z=0\/4<=z/\1<=b/\b<=a):=by
 have c:(λq:Int×Int×Int=>Eo s (a:Int) q.1 q.2.1 q.2.2)=λq:Int×Int×Int=>Gx s (a:Int) q.1 q.2.1 q.2.2:=by grind [vG,Eo,Gx]
 rw[c,BC];obtain⟨r,h1,z,b,rfl,h2,h3,h4⟩:=A9 (body:=λq:Int×Int×Int=>Gx s (a:Int) q.1 q.2.1 q.2.2) (λ(q:Nat×Nat) i=>((q.1:Int),(q.2:Int),(a:Int)-1-i)) a (λi q=>q.1<=31/\a+q.1<=(L s).length/\(q.1=0\/4<=q.1/\1<=q.2/\q.2<=a)) (λr=>∃z b:Nat,r=((z:Int),(b:Int))/\z<=31/\a+z<=(L s).length/\(z=0\/4<=z/\1<=b/\b<=a))
  (λq i hi hq=>by
   obtain⟨k,m1,m2,m3⟩:=vF s (a-1-i) a (by omega) ha hs;have e1:((a:Int)-1-(i:Int))=((a-1-i:Nat):Int):=by omega
   simp only[Gx,e1];rw[Ac (by omega:(((a-1-i:Nat)):Int)>=0),An,m1,Aa,BC,BC];refine .inl ?_;have e2:(((a-1-i:Nat):Int)-1)=(a:Int)-1-((i+1:Nat):Int):=by omega
   have e3:((a:Int)-((a-1-i:Nat):Int))=((1+i:Nat):Int):=by omega
   rw[e2,e3];by_cases h4:4<=k
   ·rw[cT];by_cases h5:q.1<k
    ·rw[Ac (by omega:(k:Int)>(q.1:Int))];exact⟨(k,1+i),rfl,m2,m3,.inr ⟨h4,by omega,by omega⟩⟩
    grind
   grind)
  (λq hq=>by
   simp only[Gx]
   grind) (s:=(0,0)) ⟨by omega,by omega,.inl rfl⟩
 grind [BC,Rn]
def SQ (t:AH):Prop:=(t.Back=0/\t.Size=0/\1<=(L t.Text).length/\(L t.Text).length<=31)\/(1<=t.Back/\t.Back<=64/\4<=t.Size/\t.Size<=31/\L t.Text=[])
theorem Et (l:List α) (x:α):gi (l++ [x]) (l.length:Int)=some x:=by
 rw[Ao];simp
theorem II (l:List α) (x y:α):si (l++ [x]) (l.length:Int) y=l++ [y]:=by
 rw[Eh];simp
theorem jT (s:ByteArray) (hs:(L s).length<=64):∃l,Mu s=some l/\OV s=some l/\l.length<=64/\∀t∈l,SQ t:=by
 unfold Mu OV;obtain⟨l,h1,h2,h3,h4⟩:=Ri (body:=λq:List AH×Int=>Cj s q.1 q.2) (body':=λq:List AH×Int=>K6 s q.1 q.2) (λq=>(L s).length-q.2.toNat)
  (λq=>∃a:Nat,q.2=(a:Int)/\a<=(L s).length/\q.1.length<=a/\∀t∈q.1,SQ t) (λl=>l.length<=64/\∀t∈l,SQ t)
  (by
   rintro⟨f,at_⟩ ⟨a,ha,h1,h2,h3⟩;simp only at ha h2 h3;subst ha;simp only[Cj,K6];rw[Bh];by_cases i:a<(L s).length
   ·rw[Ac (by omega:(a:Int)<((L s).length:Int)),An,An];obtain⟨z,b,m1,m2,m3,m4,m5⟩:=mL s a h1 hs;rw[m1,m2];simp only[Aa]
    have c:∀x:AH,ap 32 f [x]=some (f++ [x]):=λx=>Bq<|by grind
    refine .inl ?_;by_cases hz:z=0
    ·subst hz;have esub:sub s (a:Int) (ad (a:Int) 1)=some (s.extract a<|a+1):=by rw[ad1];exact FE s (by omega) (by omega)
     have elen:(L<|s.extract a<|a+1).length=1:=by grind [JL]
     rw[esub,ad1,BC (by rw[Bi];omega) (by rw[Bi];omega),Bi]
     have ecat:∀x:ByteArray,(L x).length<=31->GY x (s.extract a<|a+1)=some (x++s.extract a (a+1)):=λx hx=>Fy _ _ (by rw[elen];omega)
     have e0:GY (bs []) (s.extract a<|a+1)=some (s.extract a<|a+1):=by
      rw[ecat _ (by rw[Du];simp)];rfl
     have enew:SQ (AH.mk 0 0<|s.extract a<|a+1):= .inl ⟨rfl,rfl,by grind,by grind⟩
     have d:∀(o:List AH) (x:AH),(∀t∈o,SQ t)->SQ x->∀t∈o++ [x],SQ t:=λo x ho hx t ht=>by grind
     have fin:∀o:List AH,o.length<=a+1->(∀t∈o,SQ t)->(∃a':Nat,((a+1:Nat):Int)=(a':Int)/\a'<=(L s).length/\o.length<=a'/\∀t∈o,SQ t)/\(L s).length-(((a+1:Nat)):Int).toNat<(L s).length-((a:Int)).toNat:=λo g h=>⟨⟨a+1,rfl,by omega,g,h⟩,by omega⟩
     rcases Gp f with rfl|⟨o,x,rfl⟩
     ·simp only[L5,Int.ofNat_zero,Int.zero_sub];rw[Ac (by omega:(-1:Int)<0),Ah (by omega:¬(-1:Int)>=0)];simp only[An,Ad,Aa,c];rw[show ad (-1) 1=(([]:List AH).length:Int)from rfl];simp only[Et,Aa,e0,II];exact⟨_,rfl,rfl,fin _ (by simp)<|d _ _ (by simp) enew⟩
     rw[Jc]at h2 h3 c⊢;simp only[A4,Ct]at h2⊢;have ek:(((o.length+1:Nat):Int)-1)=(o.length:Int):=by omega
     rw[ek,Ah (by omega:¬(o.length:Int)<0),Ac (by omega:(o.length:Int)>=0)];simp only[An,Ad,Et,Aa];have hx:=h3 x (by simp);have e:=d (o++ [x]) _ h3 enew;have elast:ad (o.length:Int) 1=((o++ [x]).length:Int):=by rw[ad1];simp
     rcases hx with⟨x1,x2,x3,x4⟩|⟨x1,x2,x3,x4,x5⟩
     ·rw[x1];simp only[show((0:Int)==0)=true from rfl,An,show decide ((0:Int)>0)=false from rfl,Ad];rw[Bh];by_cases h31:(L x.Text).length<31
      ·rw[Ac (by omega:((L x.Text).length:Int)<31),Ah (by omega:¬((L x.Text).length:Int)>=31)];simp only[An,Ad,Aa,Et,ecat _ x4,II];simp only[x1];refine⟨_,rfl,rfl,fin _ (by simp;omega)<|d _ _ (λt ht=>h3 t<|by simp[ht])<|.inl ⟨rfl,x2,?_,?_⟩⟩
       ·grind [FZ]
       grind [FZ]
      rw[Ah (by omega:¬((L x.Text).length:Int)<31),Ac (by omega:((L x.Text).length:Int)>=31)];simp only[An,Ad,Aa,c,elast,Et,e0,II];exact⟨_,rfl,rfl,fin _ (by simp;omega) e⟩
     have hb:(x.Back==0)=false:=by simp;omega
     rw[hb,Ac (by omega:x.Back>0)];simp only[An,Ad,Aa,c,elast,Et,e0,II];exact⟨_,rfl,rfl,fin _ (by simp;omega) e⟩
    rw[Ac (by omega:(z:Int)>0),An,An,c];rw[BL];refine⟨_,rfl,rfl,⟨a+z,by simp,by omega,by simp;omega,?_⟩,by simp only;omega⟩;intro t ht
    rcases A0.1 ht with ht|ht
    ·exact h3 t ht
    rw[Bl]at ht;subst ht;refine .inr ⟨?_,?_,?_,?_,by rfl⟩<;>simp only<;>omega
   grind) ((L s).length) ([],0) (by simp) ⟨0,rfl,by omega,by simp,by simp⟩
 grind
theorem WP (l m:List Int):L (EC (l++m))=L (EC l)++L (EC m):=by grind [MM]
theorem PV (l:List Int):(L (EC l)).length=l.length:=by rw[MM,Bt]
theorem tE (b:ByteArray):L (EC (tS b))=L b:=by
 rw[MM,tS,GR];have:((λn:Int=>UInt8.ofNat n.toNat)∘λc:UInt8=>(c.toNat:Int))=id:=by
  funext c;simp
 rw[this,SE];rfl
theorem wY (l:List Int) (b:ByteArray):aps l b=ap 1 l (tS b):=by simp[tS,aps,ap]
theorem cH (b:ByteArray):(tS b).length=(L b).length:=by simp[tS,L]
theorem VO (s:ByteArray):∃z ok,D5 s=some (z,ok)/\Kq s=some (z,ok)/\(ok=false->z=bs [])/\(ok=true->(L s).length<=64/\((L z)[0]?=some 122\/(L z)[0]?=some 114)):=by
 unfold D5 Kq;rw[Bh];by_cases hs:(L s).length<=64
 ·rw[Ah (by omega:¬((L s).length:Int)>64),Ad,Ad];obtain⟨l,t1,t2,t3,t4⟩:=jT s hs;rw[t1,t2];simp only[Aa];obtain⟨z,v,h1,h2,rfl,h3,h4⟩:=aT (body:=λq:ByteArray×Int=>Fs l q.1 q.2) (body':=λq:List Int×Int=>Il l q.1 q.2) (λv i=>(EC v,i)) (λv i=>(v,i)) l.length (λi v=>v.length<=1+33*i/\(L<|EC v)[0]?=some 122) (λz v=>z=EC v/\v.length<=4000/\(L<|EC v)[0]?=some 122)
   (λv i hi hv=>by
    have hg:l[i]?=some l[i]:=Ab hi;have ht:=t4 _<|Ar hi;refine .inl ?_;simp only[Fs,Il,Gk,Ac hi,An,Ao,hg,Aa]
    have b:∀(a:ByteArray) (m:List Int),(L a).length<=4000->m.length<=2->GY a (EC m)=some (a++EC m):=λa m h1 h2=>Fy _ _ (by rw[PV];omega)
    have h0:∀m:List Int,(L<|EC<|v++m)[0]?=some 122:=λm=>by grind [WP]
    rcases ht with⟨x1,x2,x3,x4⟩|⟨x1,x2,x3,x4,x5⟩
    ·rw[x1];simp only[show((0:Int)==0)=true from rfl,An,show decide ((0:Int)>0)=false from rfl,Ad];rw[b _ _ (by rw[PV];omega) (by simp),Bq<|by grind];simp only[Aa];rw[Fy _ _ (by grind [FZ,PV]),wY,Bq (by rw[cH];grind)]
     grind [ad1,JK,FZ,WP,tE,cH]
    have hb:(l[i].Back==0)=false:=by simp;omega
    rw[hb,Ac (by omega:l[i].Back>0)];simp only[An,Ad];rw[b _ _ (by rw[PV];omega) (by simp),Bq<|by grind];simp only[Aa];rw[ad1<|by omega];refine⟨v++ [IntKind.u8.wrap<|ad 128 l[i].Size,IntKind.u8.wrap l[i].Back],?_,rfl,?_,h0 _⟩
    ·grind [JK,FZ,WP]
    grind)
   (λv hv=>⟨_,_,by grind [Gk,Fs],by grind [Gk,Il],rfl,by omega,hv.2⟩) (s:=[122]) ⟨by simp,by rw[MM];rfl⟩
  have e0:(EC [122],(0:Int))=(bs [122],(0:Int)):=by rfl
  simp only[e0]at h1;rw[h1,h2];simp only[Aa];rw[Bh,PV,Bi,BL (by omega)<|by omega];by_cases hc:((L s).length:Int)+1<=(v.length:Int)
  ·rw[Ac hc,An,Fy _ _ (by rw[Du];grind)];refine⟨_,true,rfl,rfl,by simp,λ_=>⟨hs,.inr ?_⟩⟩;rfl
  simp_all [Ah]
 simp_all;grind
def PS (t:AH):Prop:=(t.Back=0/\t.Size=0/\1<=(L t.Text).length/\(L t.Text).length<=31)\/(t.Back≠0/\1<=t.Size/\t.Size<=31/\L t.Text=[])
theorem fK:NY=GF:=by grind [Yg,PF,wY,NY,GF,Pd,Ej,ln,Pc,DB]
theorem P6 (l:List AH) (hl:l.length<=1048576):∃p ok,GF l=some (p,ok)/\(ok=true->∀t∈l,PS t):=by
 unfold GF;obtain⟨r,h1,h2⟩:=A9 (body:=λq:List Int×Int=>Ej l q.1 q.2) (λ(o:List Int) i=>(o,i)) l.length (λi o=>o.length<=64/\∀(j:Nat) t,j<i->l[j]?=some t->PS t) (λr=>(∃o,r= .inl o/\∀t∈l,PS t)\/r= .inr (bs [],false))
  (λo i hi ho=>by
   have hg:l[i]?=some l[i]:=Ab hi;simp only[Ej,D6 hi,Ao,hg,Aa,PF];have good:∀(o':List Int),PS l[i]->(∃s',(some (.inl o':(List Int)⊕(List Int×Int)⊕(List Int)⊕(ByteArray×Bool))).bind (Sum.elim (λj1=>cond (decide<|(ln j1)>64) (some<|.inr<|.inr (bs [],false))<|some<|.inl (j1,ad (i:Int) 1)) some)=some (.inl (s',((i+1:Nat):Int)))/\s'.length<=64/\∀(j:Nat) t,j<i+1->l[j]?=some t->PS t)\/∃b,(some (.inl o':(List Int)⊕(List Int×Int)⊕(List Int)⊕(ByteArray×Bool))).bind (Sum.elim (λj1=>cond (decide<|(ln j1)>64) (some<|.inr<|.inr (bs [],false))<|some<|.inl (j1,ad (i:Int) 1)) some)=some (.inr b)/\((∃o,b= .inl o/\∀t∈l,PS t)\/b= .inr (bs [],false)):=by grind [Bi,ad1]
   by_cases hb:l[i].Back=0
   ·rw[hb];rw[Bh];by_cases hx:(1<=(L l[i].Text).length/\(L l[i].Text).length<=31)/\l[i].Size=0
    ·obtain⟨⟨c,d⟩,a⟩:=hx;rw[Ac (by omega:(1:Int)<=((L l[i].Text).length:Int)),Ac (by omega:((L l[i].Text).length:Int)<=31),a];rw[Bq (by rw[cH];omega)];exact good _<|.inl ⟨hb,a,c,d⟩
    grind
   have hb':(l[i].Back==0)=false:=by simpa using hb
   rw[hb'];rw[Bi,PA,Du];by_cases hx:(1<=l[i].Back/\l[i].Back<=(o.length:Int))/\(1<=l[i].Size/\l[i].Size<=31)/\L l[i].Text=[]
   ·obtain⟨⟨y1,y2⟩,⟨y3,y4⟩,y5⟩:=hx;rw[Ac y1,Ac y2,Ac y3,Ac y4,Ac y5];obtain⟨o',q1,q2⟩:=A9 (body:=λq:List Int×Int=>DB l[i] q.1 q.2) (λ(o:List Int) k=>(o,k)) l[i].Size.toNat (λk u=>u.length=o.length+k) (λ_=>True)
     (λu k hk hu=>by grind [BC,Bi,JU,Bq,ad1,DB])
     (λu hu=>⟨u,by grind [DB],trivial⟩) (s:=o) (by omega)
    rw[q1];exact good _<|.inr ⟨hb,y3,y4,y5⟩
   grind)
  (λo ho=>⟨_,by simp[Dk,Ej],.inl ⟨o,rfl,λt ht=>by
   obtain⟨j,hj,rfl⟩:=Av ht
   simp_all⟩⟩) (s:=[]) ⟨by simp,λj t hj=>by omega⟩
 grind
theorem Wa (c:UInt8):IntKind.i64.wrap (c.toNat:Int)=(c.toNat:Int):=NE (by omega) (by have:=c.toNat_lt;omega)
theorem ZC (rem:ByteArray) (a:List AH) (h:0<(L rem).length) (ho:a.length<=1048576) (hr:(L rem).length<=1048576):
  CU rem a=some (if 128<=(L rem)[0].toNat/\2<=(L rem).length then .inl (rem.extract 2 (L rem).length,a++ [AH.mk (((L rem)[1]?.getD 0).toNat:Int) (((L rem)[0].toNat:Int)-128) (bs [])])
   else if(L rem)[0].toNat<128/\(L rem)[0].toNat<(L rem).length then .inl (rem.extract (1+(L rem)[0].toNat) (L rem).length,a++ [AH.mk 0 0 (rem.extract 1 (1+(L rem)[0].toNat))])
   else .inr (.inr ([],false))):=by
 have d:=(L rem)[0].toNat_lt;have b:seq rem (bs [])=false:=by grind [PA,Du]
 have c:∀x:AH,ap 32 a [x]=some (a++ [x]):=λx=>Bq<|by grind
 unfold CU;rw[b];have s0:sx rem 0=some ((L rem)[0].toNat:Int):=Eg rem (i:=0) h;simp only[BW,An,s0,Aa,Wa,Bh,c];have c0:ad 1 ((L rem)[0].toNat:Int)=((1+(L rem)[0].toNat:Nat):Int):=by rw[BL];omega
 rw[c0];by_cases h1:128<=(L rem)[0].toNat
 ·rw[Ac (by omega:((L rem)[0].toNat:Int)>=128),Ah (by omega:¬((L rem)[0].toNat:Int)<128)];simp only[An,Ad,Aa];by_cases h2:2<=(L rem).length
  ·grind [Eg,FE,BC,Wa,L,sub]
  grind
 rw[Ah (by omega:¬((L rem)[0].toNat:Int)>=128),Ac (by omega:((L rem)[0].toNat:Int)<128),Bc λe=>h1 e.1];simp only[An,Ad,Aa];simp_all [L,sub];grind
theorem fY (rem:ByteArray) (a:List AH) (h:(L rem).length=0):CU rem a=some (.inr (.inl a)):=by grind [PA,Du,CU]
theorem ZB (t:ByteArray) (b:List AH) (a:Nat) (h:a<(L t).length) (ho:b.length<=1048576) (hr:(L t).length<=1048576):
  BF t b (a:Int)=some (if 128<(L t)[a].toNat then(if a+2<=(L t).length then .inl (b++ [AH.mk (((L t)[a+1]?.getD 0).toNat:Int) (((L t)[a].toNat:Int)-128) (bs [])],((a+2:Nat):Int))else .inr (.inr (b,false)))
   else if a+1+(L t)[a].toNat<=(L t).length then .inl (b++ [AH.mk 0 0 (t.extract (a+1) (a+1+(L t)[a].toNat))],((a+1+(L t)[a].toNat:Nat):Int))
   else .inr (.inr (b,false))):=by
 have d:=(L t)[a].toNat_lt
 have c:∀x:AH,ap 32 b [x]=some (b++ [x]):=λx=>Bq<|by grind
 have c2:ad (a:Int) 2=((a+2:Nat):Int):=by rw[BL];omega
 have c3:ad ((a+1:Nat):Int) ((L t)[a].toNat:Int)=((a+1+(L t)[a].toNat:Nat):Int):=by rw[BL];omega
 unfold BF;rw[Bh,cT,Eg t h];simp only[Aa,Wa,c];rw[c2,ad1,c3];by_cases h1:128<(L t)[a].toNat
 ·rw[cT,B3 h1];by_cases h2:a+2<=(L t).length
  ·rw[cF,B3 h2,Eg t (by omega:a+1<(L t).length),BC]
   grind [Wa]
  grind
 rw[cF,Bc h1];by_cases h2:a+1+(L t)[a].toNat<=(L t).length
 ·rw[Ah (by omega:¬((a+1+(L t)[a].toNat:Nat):Int)>((L t).length:Int)),Ad,B3 h2,FE t (by omega) h2];rfl
 grind
theorem WH (t:ByteArray) (b:List AH) (a:Nat) (h:(L t).length<=a):BF t b (a:Int)=some (.inr (.inl b)):=by grind [Bh,BF]
theorem s7 (rem:ByteArray) (a:List AH) (h:a.length+(L rem).length<=1048576):∃r,Ai (λq:ByteArray×List AH=>CU q.1 q.2) (rem,a)=some r/\((∃l,r= .inl l/\l.length<=1048576/\∀t∈a,t∈l)\/r= .inr ([],false)):=by
 obtain⟨r,h1,_,h2⟩:=Ri (body:=λq:ByteArray×List AH=>CU q.1 q.2) (body':=λq:ByteArray×List AH=>CU q.1 q.2) (λq=>(L q.1).length) (λq=>q.2.length+(L q.1).length<=1048576/\∀t∈a,t∈q.2) (λr=>(∃l,r= .inl l/\l.length<=1048576/\∀t∈a,t∈l)\/r= .inr ([],false))
  (by grind [fY,ZC,JL]) _ (rem,a) (Ay _) ⟨h,λt ht=>ht⟩
 grind
theorem s6 (t:ByteArray) (b:List AH) (a:Nat) (ha:a<=(L t).length) (h:b.length<=a) (hr:(L t).length<=1048576):∃r,Ai (λq:List AH×Int=>BF t q.1 q.2) (b,(a:Int))=some r/\((∃l,r= .inl l/\l.length<=1048576/\∀x∈b,x∈l)\/∃l,r= .inr (l,false)/\l.length<=1048576):=by
 obtain⟨r,h1,_,h2⟩:=Ri (body:=λq:List AH×Int=>BF t q.1 q.2) (body':=λq:List AH×Int=>BF t q.1 q.2) (λq=>(L t).length-q.2.toNat) (λq=>∃a:Nat,q.2=(a:Int)/\a<=(L t).length/\q.1.length<=a/\∀x∈b,x∈q.1) (λr=>(∃l,r= .inl l/\l.length<=1048576/\∀x∈b,x∈l)\/∃l,r= .inr (l,false)/\l.length<=1048576)
  (by
   rintro⟨o,at_⟩ ⟨a,ha,hl,hb,ho⟩;simp only at ha hb ho;subst ha;simp only
   rcases E9 a (L t).length with h0|h0
   ·rw[ZB t o a h0 (by omega) hr];split
    ·split
     ·simp_all;grind
     grind
    split
    ·simp_all;grind
    grind
   grind [WH]) _ (b,(a:Int)) (Ay _) ⟨a,rfl,ha,h,λt ht=>ht⟩
 grind
theorem s5 (t:ByteArray) (hr:(L t).length<=1048576):∀(n a:Nat) (rem:ByteArray) (b:List AH),(L t).length-a<=n->a<=(L t).length->L rem=(L t).drop a->b.length<=a->
  ∃ri rs,Ai (λq:ByteArray×List AH=>CU q.1 q.2) (rem,b)=some ri/\Ai (λq:List AH×Int=>BF t q.1 q.2) (b,(a:Int))=some rs/\
   ((∃l,ri= .inl l/\rs= .inl l/\l.length<=1048576)\/((ri= .inr ([],false)\/∃l,ri= .inl l/\l.length<=1048576/\∃x∈l,¬PS x)/\((∃l,rs= .inr (l,false)/\l.length<=1048576)\/∃l,rs= .inl l/\l.length<=1048576/\∃x∈l,¬PS x))):=by
 intro n
 induction n with
 |zero=>grind [Au,fY,WH]
 |succ n ih=>
  intro a rem b h1 h2 h3 h4
  rcases E9 a (L t).length with h0|h0
  ·have j:(L rem).length=(L t).length-a:=by rw[h3];simp
   have e:0<(L rem).length:=by omega
   have g:(L rem)[0]=(L t)[a]:=by grind
   have h:(L rem)[1]?.getD 0=(L t)[a+1]?.getD 0:=by grind
   have c:=ZC rem b e (by omega) (by omega);have f:=ZB t b a h0 (by omega) hr
   have d:∀k,L (rem.extract k (L rem).length)=(L t).drop (a+k):=λk=>by grind [JL,DS,AP]
   rw[g,h]at c
   rcases SD (L t)[a].toNat 128 with hc|hc|hc
   ·rw[Bc<|by omega]at c;by_cases hk:a+1+(L t)[a].toNat<=(L t).length
    ·obtain⟨ri,rs,q1,q2,q3⟩:=ih (a+1+(L t)[a].toNat) (rem.extract (1+(L t)[a].toNat) (L rem).length) (b++ [AH.mk 0 0<|t.extract (a+1)<|a+1+(L t)[a].toNat]) (by omega) hk (by grind) (by grind);have etx:rem.extract 1 (1+(L t)[a].toNat)=t.extract (a+1) (a+1+(L t)[a].toNat):=by grind [JK,JL,DS]
     refine⟨ri,rs,?_,?_,q3⟩
     ·rw[Au]
      grind
     grind [Au]
    grind [Au]
   ·
    have hI:∃ri,Ai (λq:ByteArray×List AH=>CU q.1 q.2) (rem,b)=some ri/\(ri= .inr ([],false)\/∃l,ri= .inl l/\l.length<=1048576/\∃x∈l,¬PS x):=by
     by_cases hk:2<=(L rem).length
     ·obtain⟨r,q1,q2⟩:=s7 (rem.extract 2 (L rem).length) (b++ [AH.mk (((L t)[a+1]?.getD 0).toNat:Int) (((L t)[a].toNat:Int)-128)<|bs []]) (by grind);refine⟨r,by rw[Au];grind,?_⟩
      rcases q2 with⟨l,rfl,q3,q4⟩|rfl
      ·refine .inr ⟨l,rfl,q3,_,q4 _<|B8 _<|Bl.2 rfl,?_⟩;intro hk
       rcases hk with⟨_,_,k3,_⟩|⟨_,k2,_⟩
       ·grind [Du]
       grind
      exact .inl rfl
     grind [Au]
    have hS:∃rs,Ai (λq:List AH×Int=>BF t q.1 q.2) (b,(a:Int))=some rs/\((∃l,rs= .inr (l,false)/\l.length<=1048576)\/∃l,rs= .inl l/\l.length<=1048576/\∃x∈l,¬PS x):=by
     by_cases hk:a+1+(L t)[a].toNat<=(L t).length
     ·obtain⟨r,q1,q2⟩:=s6 t (b++ [AH.mk 0 0<|t.extract (a+1)<|a+1+(L t)[a].toNat]) (a+1+(L t)[a].toNat) hk (by grind) hr;refine⟨r,by rw[Au];grind,?_⟩
      rcases q2 with⟨l,rfl,q3,q4⟩|⟨l,rfl,q3⟩
      ·refine .inr ⟨l,rfl,q3,_,q4 _<|B8 _<|Bl.2 rfl,?_⟩;intro i
       rcases i with⟨_,_,_,k4⟩|⟨k1,_⟩
       ·simp only[JL,FY,Oh]at k4;omega
       exact k1 rfl
      grind
     grind [Au]
    obtain⟨ri,q1,q2⟩:=hI;obtain⟨rs,q3,q4⟩:=hS;exact⟨ri,rs,q1,q3,.inr ⟨q2,q4⟩⟩
   by_cases hk:a+2<=(L t).length
   ·obtain⟨ri,rs,q1,q2,q3⟩:=ih (a+2) (rem.extract 2 (L rem).length) (b++ [AH.mk (((L t)[a+1]?.getD 0).toNat:Int) (((L t)[a].toNat:Int)-128)<|bs []]) (by omega) hk (d 2) (by grind);exact⟨ri,rs,by rw[Au];grind,by rw[Au];grind,q3⟩
   grind [Au]
  grind [Au,WH]
theorem uM (t:ByteArray) (hr:(L t).length<=1048576):∃li oi ls os pi ki ps ks,ON t=some (li,oi)/\MZ t=some (ls,os)/\NY li=some (pi,ki)/\GF ls=some (ps,ks)/\((oi=os/\pi=ps/\ki=ks)\/((oi=false\/ki=false)/\(os=false\/ks=false))):=by
 obtain⟨ri,rs,q1,q2,q3⟩:=s5 t hr ((L t).length) 0 t [] (by omega) (by omega) (by simp) (by simp);have e0:(([]:List AH),((0:Nat):Int))=([],0):=rfl;simp only[e0]at q2;unfold ON MZ;rw[q1,q2,fK];have none:∀l:List AH,l.length<=1048576->(∃x∈l,¬PS x)->∃p,GF l=some (p,false):=by
  rintro l hl ⟨x,hx,hn⟩;obtain⟨p,ok,h1,h2⟩:=P6 l hl
  cases ok with
  |false=>exact⟨p,h1⟩
  |true=>grind
 rcases q3 with⟨l,rfl,rfl,hl⟩|⟨hi,hs⟩
 ·obtain⟨p,ok,h1,_⟩:=P6 l hl;exact⟨l,true,l,true,p,ok,p,ok,rfl,rfl,h1,h1,.inl ⟨rfl,rfl,rfl⟩⟩
 have hI:∃li oi pi ki,(some ri).bind (Sum.elim (λv1=>some (v1,true)) some)=some (li,oi)/\GF li=some (pi,ki)/\(oi=false\/ki=false):=by
  rcases hi with rfl|⟨l,rfl,hl,hb⟩
  ·obtain⟨p,ok,h1,_⟩:=P6 [] (by simp)
   grind
  obtain⟨p,h1⟩:=none l hl hb;simp_all
 have hS:∃li oi pi ki,(some rs).bind (Sum.elim (λv1=>some (v1,true)) some)=some (li,oi)/\GF li=some (pi,ki)/\(oi=false\/ki=false):=by grind [P6]
 obtain⟨li,oi,pi,ki,a1,a2,a3⟩:=hI;obtain⟨ls,os,ps,ks,b1,b2,b3⟩:=hS;exact⟨li,oi,ls,os,pi,ki,ps,ks,a1,b1,a2,b2,.inr ⟨a3,b3⟩⟩
theorem RV (t:ByteArray) (hr:(L t).length<=1048576):∃u ok,Gt t=some (u,ok)/\LI t=some (u,ok)/\(ok=false->u=bs [])/\(ok=true->(L u).length<=64):=by
 unfold Gt LI;rw[Bh,PA,Du];by_cases h0:L t=[]
 ·simp_all
 have a:0<(L t).length:=by grind
 have e1:(((L t).length:Int)==0)=false:=by simp;exact h0
 rw[e1,Ah h0,Ad,Ad];have s1:sub t 1 ((L t).length:Int)=some (t.extract 1 (L t).length):=FE t (i:=1) (by omega)<|Ay _;have s0:sx t 0=some ((L t)[0].toNat:Int):=Eg t (i:=0) a;rw[s1,s0];simp only[Aa];generalize hx:t.extract 1 (L t).length=x;have b:(L x).length<=1048576:=by grind [JL]
 obtain⟨li,oi,ls,os,pi,ki,ps,ks,a1,a2,a3,a4,a5⟩:=uM x b;rw[a1,a2];simp only[Aa];rw[a3,a4];simp only[Aa];have back:∀j:ByteArray,∃u ok,((D5 j).bind λv3=>(cond (!v3.2) (some true) (some<|!(seq v3.1 t)):Option Bool).bind λj2=>cond j2 (some (bs [],false)) (some (j,true)):Option (ByteArray×Bool))=some (u,ok)/\
   ((Kq j).bind λv3=>(cond (!v3.2) (some true) (some<|!(seq v3.1 t)):Option Bool).bind λj2=>cond j2 (some (bs [],false)) (some (j,true)):Option (ByteArray×Bool))=some (u,ok)/\(ok=false->u=bs [])/\(ok=true->(L u).length<=64/\((L t)[0].toNat=122\/(L t)[0].toNat=114)):=by
  intro j;obtain⟨z,ok,p1,p2,p3,p4⟩:=VO j;rw[p1,p2];simp only[Aa]
  cases ok with
  |false=>simp
  |true=>
   simp only[Al,Ad,Aa]
   cases hz:seq z t with
   |false=>simp
   |true=>
    have c:z=t:=by grind [Kc]
    obtain⟨p5,p6⟩:=p4 rfl;refine⟨_,true,rfl,rfl,by simp,λ_=>⟨p5,?_⟩⟩;rw[c,Ab a]at p6
    rcases p6 with p6|p6
    ·simp_all
    simp_all
 by_cases h122:(L t)[0].toNat=122
 ·have c1:((((L t)[0].toNat:Nat):Int)==122)=true:=by simp[h122]
  have c2:((((L t)[0].toNat:Nat):Int) !=114)=true:=by simp[h122]
  rw[c1,c2];simp only[An]
  rcases a5 with⟨rfl,rfl,rfl⟩|⟨hi,hs⟩
  ·cases oi with
   |false=>simp
   |true=>
    cases ki with
    |false=>simp
    |true=>simp_all
  grind
 have c1:((((L t)[0].toNat:Nat):Int)==122)=false:=by simp;omega
 rw[c1];simp only[Ad,Aa,CL];by_cases h114:(L t)[0].toNat=114
 ·simp_all
 have c2:((((L t)[0].toNat:Nat):Int) !=114)=true:=by simp;omega
 rw[c2];simp only[An];have nope:∀(j u:ByteArray) (ok:Bool),(ok=true->(L u).length<=64/\((L t)[0].toNat=122\/(L t)[0].toNat=114))->ok=false:=by grind
 obtain⟨u,ok,b1,b2,b3,b4⟩:=back x;have k1:=nope x u ok b4;subst k1;have k2:=b3 rfl;subst k2;refine⟨bs [],false,b1,?_,by simp,by simp⟩
 cases oi with
 |false=>rfl
 |true=>
  cases ki with
  |false=>rfl
  |true=>
   simp only[Al,Ad,Aa,CL];obtain⟨u,ok,d1,d2,d3,d4⟩:=back pi
   grind
def Vh (x:Bb):Nat:=x.Kids.length
def W4 (x:Arena):Nat:=zl Vh x.Knots
def Ln (x:Store):Nat:=x.Vols.length+W4 x.Arena
def Ol (x:Ax):Nat:=N1 x.Flash+Ln x.Store
def PO (x:Leaf):Nat:=bif x.Is==0 then 1 else 0
theorem wV (l:List Leaf):(l.map PO).sum<=l.length:=by
 induction l with
 |nil=>simp
 |cons x l ih=>grind [PO]
theorem Vc (b:Block) (h:b.Leaves.length<=1048576):Hv b=some ((b.Leaves.map PO).sum:Int):=by
 unfold Hv;obtain⟨v,h1,rfl⟩:=A9 (body:=λs:Int×Int=>Gn b s.1 s.2) (λ(s:Int) i=>(s,i)) b.Leaves.length (λk s=>s=(((b.Leaves.take k).map PO).sum:Nat)) (λv=>v=((b.Leaves.map PO).sum:Nat))
  (λs k hk hs=>by
   have hx:b.Leaves[k]?=some b.Leaves[k]:=Ab hk;have e:=NJ PO b.Leaves k hk;have e2:=KE PO b.Leaves<|k+1;have e3:=wV b.Leaves;refine .inl ?_;simp only[Gn,D6 hk,Ao,hx,Aa]
   grind [BL,PO])
  (λs hs=>⟨s,by simp[Dk,Gn],by grind⟩) (s:=0) (by simp)
 rw[h1];rfl
theorem R7 (f:Flash) (hf:IB f) (hn:nl f.Blocks<=1048576):∃v:Int,Ju f=some v/\Lb f=some v/\0<=v/\v<=nl f.Blocks:=by
 unfold Ju Lb;obtain⟨v,h1,h2,h3⟩:=Qw (body:=λs:Int×Int=>Hj f s.1 s.2) (body':=λs:Int×Int=>La f s.1 s.2) (λ(s:Int) i=>(s,i)) (λ(s:Int) i=>(s,i)) f.Blocks.length (λi n=>0<=n/\n<=(((f.Blocks.take i).map λb=>b.Leaves.length).sum:Nat)) (λv=>0<=v/\v<=nl f.Blocks)
  (λn i hi hs=>by
   have hb:f.Blocks[i]?=some f.Blocks[i]:=Ab hi;have hm:f.Blocks[i]∈f.Blocks:=Ar _;have d:=NJ (λb:Block=>b.Leaves.length) f.Blocks i hi;have g:=KE (λb:Block=>b.Leaves.length) f.Blocks<|i+1;unfold nl at hn;have h:=hf.1;have c:=hf.2 _ hm;have j:=wV f.Blocks[i].Leaves;refine .inl ?_;simp only[Hj,La,D6 hi,Ao,hb,Aa,Vc _ c];obtain⟨u,q1,rfl⟩:=A9 (body:=λs:Int×Int=>Hi f (i:Int) s.1 s.2) (λ(s:Int) i=>(s,i)) f.Blocks[i].Leaves.length (λk s=>s=n+(bif f.Blocks[i].Bad then 0 else((f.Blocks[i].Leaves.take k).map PO).sum:Nat)) (λv=>v=n+(bif f.Blocks[i].Bad then 0 else(f.Blocks[i].Leaves.map PO).sum:Nat))
    (λs k hk hs=>by
     have hx:f.Blocks[i].Leaves[k]?=some f.Blocks[i].Leaves[k]:=Ab hk;have e:=NJ PO f.Blocks[i].Leaves k hk;have e2:=KE PO f.Blocks[i].Leaves<|k+1;refine .inl ?_;simp only[Hi,Ao,hb,Aa,D6 hk,hx]
     cases a:f.Blocks[i].Bad with
     |true=>
      rw[a]at hs;simp only[Al,Ad,An]at hs⊢;rw[ad1]
      grind
     |false=>
      rw[a]at hs;simp only[BW,Ad,An]at hs⊢;have e4:PO f.Blocks[i].Leaves[k]=bif f.Blocks[i].Leaves[k].Is==0 then 1 else 0:=rfl
      cases hb:f.Blocks[i].Leaves[k].Is==0 with
      |true=>
       rw[hb]at e4;simp only[An]at e4⊢;rw[ad1,BL]
       grind
      |false=>
       rw[hb]at e4;simp only[Ad]at e4⊢;rw[ad1]
       grind)
    (λs hs=>⟨s,by simp_all [Ao,Dk,Hi],by grind⟩) (s:=n) (by grind)
   rw[q1];simp only[Aa]
   cases f.Blocks[i].Bad with
   |true=>
    simp only[An,Al,Ad];rw[ad1]
    grind
   |false=>
    simp only[An,BW,Ad];rw[ad1,BL]
    grind)
  (λn hs=>by
   rw[Dg]at hs
   exact⟨n,by simp[Dk,Hj],by simp[Dk,La],hs⟩) (s:=0) (by simp)
 grind
def Oc (a:Arena):Prop:=a.Knots.length<=1048576
theorem Vx (x a b:Int):Bx x a b=some (decide (a<=x/\x<=b)):=by
 rw[PF];simp
theorem Ue (a:Arena):HQ a=FO a:=by
 unfold HQ FO
 grind [Yg,Pp,DG,gi,Po,Ek]
def Qy (a:Arena) (i:Nat) (k:Bb) (n:Int):Prop:=if k.Leaf=true then 0<=n else n= -1\/(0<=n/\n<i/\∃k',gi a.Knots n=some k'/\k'.Leaf=true)
theorem oJ (a:Arena) (ha:Oc a):∃v,FO a=some v/\(v=true->∀(i:Nat) k,a.Knots[i]?=some k->k.Kids.length=4/\∀n∈k.Kids,Qy a i k n):=by
 unfold Oc at ha;unfold FO;obtain⟨r,h1,h2⟩:=A9 (body:=λs:Int=>DG a s) (λ(_:Unit) i=>i) a.Knots.length (λi _=>∀(j:Nat) k,j<i->a.Knots[j]?=some k->k.Kids.length=4/\∀n∈k.Kids,Qy a j k n) (λr=>r= .inr false\/r= .inl ()/\∀(i:Nat) k,a.Knots[i]?=some k->k.Kids.length=4/\∀n∈k.Kids,Qy a i k n)
  (λ_ i hi hs=>by
   obtain⟨k,hk⟩:∃k,a.Knots[i]?=some k:=⟨_,Ab hi⟩;simp only[DG,D6 hi,Ao,hk,Aa];by_cases h4:k.Kids.length=4
   ·have e1:(ln k.Kids !=4)=false:=by simp[ln,h4]
    simp only[e1,Ad];obtain⟨r,q1,q2⟩:=A9 (body:=λs:Int=>Ek a (i:Int) k s) (λ(_:Unit) j=>j) 4 (λj _=>∀(m:Nat) n,m<j->k.Kids[m]?=some n->Qy a i k n) (λr=>r= .inr (.inr<|.inr false)\/r= .inl ()/\∀n∈k.Kids,Qy a i k n)
     (λ_ j hj b=>by
      obtain⟨n,hn⟩:∃n,k.Kids[j]?=some n:=⟨_,Ab<|by omega⟩;simp only[Ek];rw[cT,Ao,hn];simp only[Aa]
      have good:Qy a i k n->(∃s':Unit,(cond false (some<|.inr<|.inr<|.inr<|.inr false) (some<|.inl<|ad (j:Int) 1):Option (Int⊕Unit⊕Int⊕Unit⊕Bool))=some (.inl ((j+1:Nat):Int))/\∀(m:Nat) n,m<j+1->k.Kids[m]?=some n->Qy a i k n):=λc=>by
       refine⟨(),by rw[Ad,ad1],λm n' hm d=>?_⟩
       grind
      cases hl:k.Leaf with
      |true=>
       simp only[An,Al,Ad];by_cases h0:n<0
       ·grind
       rw[Ah h0,Ad];exact .inl<|good<|by grind [Qy]
      |false=>
       by_cases h1:n= -1
       ·have:(n != -1)=false:=by simp[h1]
        rw[this];exact .inl<|good (by unfold Qy;grind)
       have:(n != -1)=true:=by simp[h1]
       rw[this];rw[BC,Vx];simp only[Aa];by_cases h2:0<=n/\n<=(i:Int)-1
       ·rw[Ac h2];rw[JU h2.1<|by omega];simp only[Aa]
        cases e:(a.Knots[n.toNat]'(by omega)).Leaf with
        |true=>
         refine .inl<|good ?_
         grind [JU,Qy]
        |false=>grind
       grind)
     (λ_ b=>⟨_,by rfl,.inr ⟨rfl,λn hn=>by
      obtain⟨m,hm,rfl⟩:=Av hn
      simp_all;grind⟩⟩) (s:=()) (λm n hm=>by omega)
    have q1':Ai (λs:Int=>Ek a (i:Int) k s) 0=some r:=q1;rw[q1']
    rcases q2 with rfl|⟨rfl,q2⟩
    ·grind
    rw[ad1];refine .inl ⟨(),rfl,λj k' hj f=>?_⟩
    grind
   grind [ln])
  (λ_ hs=>⟨_,by simp[Dk,DG],.inr ⟨rfl,λi k hk=>hs i k (Ae.1 hk).1 hk⟩⟩) (s:=()) (λj k hj=>by omega)
 have h1':Ai (λs:Int=>DG a s) 0=some r:=h1;rw[h1']
 rcases h2 with rfl|⟨rfl,h2⟩
 ·simp
 exact⟨_,rfl,λ_=>h2⟩
theorem kD (a:Arena) (ha:Oc a) (root:Int) (s:Nat) (hs:s<16):∃v,O3 a root (s:Int)=some v/\TB a root (s:Int)=some v:=by
 have f:a.Knots.length<=1048576:=ha;obtain⟨ok,h1,h2⟩:=oJ a ha;unfold O3 TB;rw[Ue,h1,Yg];simp only[Aa,Vx];rw[Ac (by omega:(0:Int)<=(s:Int)/\(s:Int)<=15)];simp only[Al,Ad,Aa];have d:∃b,FT a root=some b/\GD a root=some (b||root== -1)/\(b=true->0<=root/\∃k,gi a.Knots root=some k/\k.Leaf=false):=by
  unfold FT GD;rw[Yg,BC (by rw[Bi];omega) (by rw[Bi];omega),Bi,Vx]
  grind [JU]
 obtain⟨b,r1,r2,r3⟩:=d;rw[r1,r2];simp only[Aa]
 cases ok with
 |false=>simp
 |true=>
  simp only[Al,Ad]
  cases b with
  |false=>simp_all [Mr];grind
  |true=>
   obtain⟨hr,k,hk,hl⟩:=r3 rfl;simp only[Bool.true_or,Al,Ad,Aa,Mr,Sv,hk];rw[cF];obtain⟨g1,g2⟩:=Cp hk;obtain⟨k4,kk⟩:=h2 rfl root.toNat k g2;have eq4:qu (s:Int) 4=((s/4:Nat):Int):=by grind [NE,qu]
   have em:Int.tmod (s:Int) 4=((s %4:Nat):Int):=rfl;rw[eq4,em,JU (by omega)<|by omega];simp only[Aa,Ci];have e:k.Kids[s/4]'(by omega)∈k.Kids:=Ar _;have c:=kk _ e;unfold Qy at c;rw[Bc (by rw[hl];simp)]at c
   rcases c with c|⟨c1,c2,k',c3,c4⟩
   ·simp_all
   rw[cF,c3];simp only[Aa];obtain⟨g3,g4⟩:=Cp c3;obtain⟨k4',_⟩:=h2 rfl _ k' g4;rw[JU (by omega)<|by omega];simp
theorem Ok (a:Arena) (ha:Oc a) (root:Int):∃l,HG a root=some l/\Nx a root=some l/\l.length=16:=by
 unfold HG Nx;obtain⟨l,h1,h2,h3⟩:=Qw (body:=λs:List Int×Int=>Kk a root s.1 s.2) (body':=λs:List Int×Int=>Pq a root s.1 s.2) (λ(o:List Int) i=>(o,i)) (λ(o:List Int) i=>(o,i)) 16 (λi o=>o.length=i) (λo=>o.length=16)
  (λo i hi ho=>by
   obtain⟨v,g1,g2⟩:=kD a ha root i hi
   grind [Bq,ad1,Kk,Pq])
  (λo ho=>⟨o,by rfl,by rfl,ho⟩) (s:=[]) rfl
 grind
theorem SI (s:Store) (id:Int) (hs:s.Vols.length<=1048576):∃v:Int,CB s id=some v/\I3 s id=some v/\(v<0\/0<=v/\v<s.Vols.length):=by
 have e:I3 s id=CB s id:=rfl;rw[e];unfold CB;obtain⟨r,h1,h2⟩:=A9 (body:=λq:Int=>Gs s id q) (λ(_:Unit) i=>i) s.Vols.length (λ_ _=>True) (λr=>r= .inl ()\/∃v:Int,r= .inr v/\0<=v/\v<s.Vols.length)
  (λ_ i hi _=>by
   have hg:s.Vols[i]?=some s.Vols[i]:=Ab hi;simp only[Gs,D6 hi,Ao,hg,Aa]
   cases s.Vols[i].Id==id with
   |true=>grind
   |false=>
    rw[ad1]
    simp)
  (λ_ _=>⟨_,by simp[Dk,Gs],.inl rfl⟩) (s:=()) trivial
 have h1':Ai (λq:Int=>Gs s id q) 0=some r:=h1;rw[h1']
 rcases h2 with rfl|⟨v,rfl,h2⟩
 ·simp
 grind
theorem oH (s:Store) (hv:s.Vols.length<=1048576) (ha:Oc s.Arena) (id:Int) (k:Nat) (hk:k<16):∃v,LX s id (k:Int)=some v/\Ru s id (k:Int)=some v:=by
 unfold LX Ru;obtain⟨v,h1,h2,h3⟩:=SI s id hv;rw[h1,h2];simp only[Aa]
 rcases h3 with h3|⟨h3,h4⟩
 ·grind
 simp_all [Ah,JU,kD]
def QK:Aj:=Aj.mk 0 0<|Page.mk 0 0 0 0 0<|bs []
def HX (c:Int) (y:Aj):Bool:=y.Page.Kind==1&&y.Page.Tx==c
def JH (r:List Aj) (o:Option Nat):Aj:=match o with
 |some j=>r[j]?.getD QK
 |none=>QK
def PE (c:Int) (r:List Aj) (n:Nat) (o:Option Nat):Prop:=match o with
 |none=>∀(k:Nat) y,k<n->r[k]?=some y->HX c y=false
 |some j=>j<n/\(∃y,r[j]?=some y/\HX c y=true)/\∀(k:Nat) y,j<k->k<n->r[k]?=some y->HX c y=false
theorem UF {c:Int} {r:List Aj} {o o':Option Nat} (h:PE c r r.length o) (h':PE c r r.length o'):o=o':=by
 cases o with
 |none=>
  cases o' with
  |none=>rfl
  |some j=>
   obtain⟨h1,⟨y,h2,h3⟩,_⟩:=h';rw[h j y h1 h2]at h3;cases h3
 |some j=>
  obtain⟨h1,⟨y,h2,h3⟩,h4⟩:=h
  cases o' with
  |none=>
   rw[h' j y h1 h2]at h3;cases h3
  |some i=>
   obtain⟨k1,⟨z,k2,k3⟩,k4⟩:=h'
   grind
theorem aO (r:List Aj) (hr:r.length<=1048576) (c:Int):∃o,MX r c=some (JH r o,o.isSome)/\PE c r r.length o:=by
 unfold MX;rw[BC (by rw[Bi];omega) (by rw[Bi];omega),Bi];obtain⟨b,h1,h2⟩:=A9 (body:=λs:Int=>Jh r c s) (λ(_:Unit) i=>(r.length:Int)-1-i) r.length (λi _=>∀(k:Nat) y,r.length-i<=k->k<r.length->r[k]?=some y->HX c y=false) (λb=>(b= .inl ()/\PE c r r.length none)\/∃j,b= .inr (JH r<|some j,true)/\PE c r r.length (some j))
  (λ_ i hi hs=>by
   have e1:((r.length:Int)-1-(i:Int))=((r.length-1-i:Nat):Int):=by omega
   have a:r.length-1-i<r.length:=by omega
   have hg:r[r.length-1-i]?=some r[r.length-1-i]:=Ab a;simp only[Jh,e1];rw[cT];simp only[Ao,hg,Aa]
   have next:HX c r[r.length-1-i]=false->∃s':Unit,(some (.inl<|sb ((r.length-1-i:Nat):Int) 1):Option (Int⊕Unit⊕(Aj×Bool)))=some (.inl<|(r.length:Int)-1-((i+1:Nat):Int))/\∀(k:Nat) y,r.length-(i+1)<=k->k<r.length->r[k]?=some y->HX c y=false:=λd=>by
    refine⟨(),by grind [BC],λk y h1 h2 h3=>?_⟩
    grind
   cases hk:r[r.length-1-i].Page.Kind==1 with
   |false=>
    exact .inl<|next (by grind [HX])
   |true=>
    simp only[An,Aa]
    cases ht:r[r.length-1-i].Page.Tx==c with
    |false=>
     exact .inl<|next (by unfold HX;grind)
    |true=>
     refine .inr ⟨_,rfl,.inr ⟨r.length-1-i,?_,a,⟨_,hg,by grind [HX]⟩,λk y h1 h2 h3=>hs k y (by omega) h2 h3⟩⟩
     grind [JH])
  (λ_ hs=>⟨_,by grind [Jh],.inl ⟨rfl,λk y h1 h2=>hs k y (by omega) h1 h2⟩⟩) (s:=()) (λk y h1 h2=>by omega)
 have e0:((r.length:Int)-1-0)=(r.length:Int)-1:=by omega
 rw[e0]at h1;rw[h1]
 rcases h2 with⟨rfl,h2⟩|⟨j,rfl,h2⟩
 ·exact⟨none,rfl,h2⟩
 grind
theorem yP {r:List Aj} {x:Aj} (h:srt Bg r) (a:j<i) (hx:r[j]?=some x) (hy:r[i]?=some y):x.Page.Seq<=y.Page.Seq:=by
 unfold srt at h;obtain⟨h1,h2⟩:=Ae.1 hx;obtain⟨h3,h4⟩:=Ae.1 hy;rw[<-h2,<-h4];exact Di.1 h j i h1 h3 a
theorem UT (f:Flash) (r:List Aj) (d:Ew f=some r) (hr:r.length<=1048576) (g:srt Bg r) (c:Int):∃o,Q7 f c=some (JH r o,o.isSome)/\PE c r r.length o:=by
 unfold Q7;rw[d];simp only[Aa];obtain⟨b,h1,o,rfl,h2⟩:=A9 (body:=λs:Bool×Int×Int×Int×Int×Int×Int×Int×Int×ByteArray=>IT c r s.1 s.2.1 s.2.2.1 s.2.2.2.1 s.2.2.2.2.1 s.2.2.2.2.2.1 s.2.2.2.2.2.2.1 s.2.2.2.2.2.2.2.1 s.2.2.2.2.2.2.2.2.1 s.2.2.2.2.2.2.2.2.2)
  (λ(o:Option Nat) i=>(o.isSome,i,(JH r o).Block,(JH r o).Leaf,(JH r o).Page.Kind,(JH r o).Page.Seq,(JH r o).Page.Tx,(JH r o).Page.Part,(JH r o).Page.Count,(JH r o).Page.Text)) r.length (λi o=>PE c r i o)
  (λb=>∃o,b=(o.isSome,(JH r o).Block,(JH r o).Leaf,(JH r o).Page.Kind,(JH r o).Page.Seq,(JH r o).Page.Tx,(JH r o).Page.Part,(JH r o).Page.Count,(JH r o).Page.Text)/\PE c r r.length o)
  (λo i hi ho=>by
   have hg:r[i]?=some r[i]:=Ab hi;refine .inl ?_;simp only[IT,D6 hi,Ao,hg,Aa]
   have keep:HX c r[i]=false->PE c r (i+1) o:=λm=>by
    cases o with
    |none=>
     intro k y h1 h2;by_cases e:k=i
     ·grind
     exact ho k y (by omega) h2
    |some j=>
     obtain⟨h1,h2,h3⟩:=ho;refine⟨by omega,h2,λk y h4 h5 h6=>?_⟩
     grind
   cases hk:r[i].Page.Kind==1 with
   |false=>
    rw[ad1];exact⟨o,rfl,keep (by unfold HX;rw[hk];rfl)⟩
   |true=>
    cases ht:r[i].Page.Tx==c with
    |false=>
     rw[ad1];exact⟨o,rfl,keep (by unfold HX;grind)⟩
    |true=>
     have a:HX c r[i]=true:=by unfold HX;rw[hk,ht];rfl
     have l:PE c r (i+1) (some i):=⟨by omega,⟨_,hg,a⟩,λk y h1 h2=>by omega⟩;have n:JH r (some i)=r[i]:=by simp only[JH,hg,D7]
     cases o with
     |none=>
      rw[ad1]
      grind
     |some j=>
      obtain⟨h1,⟨y,h2,h3⟩,_⟩:=ho;have h:JH r (some j)=y:=by simp only[JH,h2,D7]
      have p:=yP g h1 h2 hg;simp only[Option.isSome_some,Al,Ad,Aa,h];rw[Ac (by omega:r[i].Page.Seq>=y.Page.Seq)];rw[ad1]
      grind)
  (λo ho=>⟨_,by simp only[IT,Dk],o,rfl,ho⟩) (s:=none) (λk y h1=>by omega)
 have h1':Ai (λs:Bool×Int×Int×Int×Int×Int×Int×Int×Int×ByteArray=>IT c r s.1 s.2.1 s.2.2.1 s.2.2.2.1 s.2.2.2.2.1 s.2.2.2.2.2.1 s.2.2.2.2.2.2.1 s.2.2.2.2.2.2.2.1 s.2.2.2.2.2.2.2.2.1 s.2.2.2.2.2.2.2.2.2) (false,0,0,0,0,0,0,0,0,bs [])=_:=h1;rw[h1'];exact⟨o,rfl,h2⟩
theorem g9 (hT:∀b∈f.Blocks,∀x∈b.Leaves,(L x.Text).length<=1048576) (h:Qz f y):(L y.Page.Text).length<=90:=by
 obtain⟨b,x,h1,h2,_,h3⟩:=h;obtain⟨_,g1⟩:=Cp h1;obtain⟨_,g2⟩:=Cp h2;obtain⟨p,ok,k1,_,_,k2⟩:=H8 x.Text (by grind);rw[h3]at k1
 injection k1 with k1
 injection k1 with k1 k3
 have hp:=k2 k3.symm;obtain⟨v,q1,_,q2⟩:=R8 p
 grind [Bh]
structure Zt (f:Flash) (r:List Aj):Prop where
 s:EM f=some r
 i:Ew f=some r
 len:r.length<=1048576
 page:∀y∈r,Qz f y
 text:∀y∈r,(L y.Page.Text).length<=90
 srt:srt Bg r
theorem qJ (f:Flash) (hz:N1 f<=1048576):∃r,Zt f r:=by
 obtain⟨hf,hT⟩:=AAm f hz;have hn:nl f.Blocks<=1048576:=Iv (ACg f) hz;obtain⟨r,h1,h2,h3,h4,h5⟩:=Y2 f hf hT hn;exact⟨r,h1,h2,by omega,h4,λy hy=>g9 hT<|h4 y hy,h5⟩
theorem Ud {r:List Aj} (h:Zt f r) (c:Int):∃u ok,LR r c=some (u,ok)/\Lf f c=some (u,ok):=by
 obtain⟨o,h1,h2⟩:=aO r h.len c;obtain⟨o',h3,h4⟩:=UT f r h.i h.len h.srt c;obtain rfl:=UF h2 h4;unfold LR Lf;rw[h1,h3]
 cases o with
 |none=>simp
 |some j=>
  obtain⟨_,⟨y,k1,_⟩,_⟩:=h2;have a:JH r (some j)=y:=by grind [JH]
  obtain⟨u,ok,p1,p2,_⟩:=RV y.Page.Text (by have:=h.text y<|Ap k1;omega)
  grind
end Go.TI
