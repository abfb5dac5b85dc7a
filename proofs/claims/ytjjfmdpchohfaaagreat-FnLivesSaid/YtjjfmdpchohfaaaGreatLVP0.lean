/- What is read in a drawn life is what was written last. No condition; no program is in sight. -/
import Derived.Test.YtjjfmdpchohfaaaGreatLVD
set_option linter.unusedVariables false
set_option linter.unusedSimpArgs false
namespace Go.TI
open Go
def u32 (s:Int):Prop:=0<=s/\s<4294967296
theorem vP (s:Int) (hs:u32 s):∃v,An (λs:Int×Int=>IW s.1 s.2) (s,0)=some v/\An (λs:Int×Int=>Jh s.1 s.2) (s,0)=some v/\u32 v:=
 HE (body:=λs:Int×Int=>IW s.1 s.2) (body':=λs:Int×Int=>Jh s.1 s.2) (λ(s:Int) i=>(s,i)) 8 (λ_ s=>u32 s) u32
  (λs i hi hs=>by
   simp only[IW,Jh];rw[Ac (by omega:(i:Int)<8),Ai,Ai,an1 hs.1 hs.2,<-AFB hs.1 hs.2];refine⟨rfl,.inl ?_⟩;have hw:u32 (IntKind.u32.wrap<|Int.tdiv s 2):=by rw[IntKind.wrap_u32];constructor<;>omega
   cases Int.tmod s 2==1
   ·exact⟨_,by rw[Ad,ad1],hw⟩
   exact⟨_,by rw[Ai,ad1],AEb _ _⟩)
  (λs hs=>by
   simp only[IW,Jh]
   grind) (s:=s) hs
theorem vO (s:Int) (t:ByteArray) (hs:u32 s) (ht:(L t).length<=9223372036854775806):∃v,TE s t=some v/\TW s t=some v/\u32 v:=by
 obtain⟨v,h1,h2,h3⟩:=HE (body:=λs:Int×Int=>KI t s.1 s.2) (body':=λs:Int×Int=>Le t s.1 s.2) (λ(s:Int) i=>(s,i)) (L t).length (λ_ s=>u32 s) u32
  (λs i hi hs=>by
   obtain⟨v,h1,h2,h3⟩:=vP (xr s<|IntKind.u32.wrap ((L t)[i]).toNat)<|AEb _ _;simp only[KI,Le];rw[Ac (by rw[B4];omega:(i:Int)<FL t),Ai,Ai,Fc t hi,Aa,Aa,h1,h2]
   exact⟨rfl,.inl ⟨v,by rw[Aa,ad1],h3⟩⟩)
  (λs hs=>by
   simp only[KI,Le];rw[Af (by rw[B4];omega:¬((L t).length:Int)<FL t),Ad,Ad]
   grind) (s:=s) hs
 unfold TE TW
 grind
theorem sH (t:ByteArray) (ht:(L t).length<=9223372036854775806):∃v,Ph t=some v/\Zz t=some v/\u32 v:=by
 obtain⟨v,h1,h2,h3⟩:=vO 4294967295 t ⟨by omega,by omega⟩ ht;unfold Ph Zz
 grind
def four (v:Int):ByteArray:=Fe [IntKind.u8.wrap<|Int.fdiv v<|2^(min (24:Int).toNat IntKind.u32.bits),IntKind.u8.wrap<|Int.fdiv v<|2^(min (16:Int).toNat IntKind.u32.bits),IntKind.u8.wrap<|Int.fdiv v<|2^(min (8:Int).toNat IntKind.u32.bits),IntKind.u8.wrap v]
theorem WK (v:Int):(L (four v)).length=4:=by rfl
theorem jY (t:ByteArray):IH t=KK t:=by
 unfold IH KK;by_cases h:(FL t)>20000
 ·grind
 rw[B4]at h;obtain⟨v,h1,h2,_⟩:=sH t (by omega);rw[h1,h2];rfl
theorem Ut (t:ByteArray):(20000<(L t).length->KK t=some (bs [],false))/\((L t).length<=20000->∃v,Ph t=some v/\KK t=some (t++four v,true)):=by
 unfold KK;rw[B4];refine⟨λh=>by rw[cT],λh=>?_⟩;obtain⟨v,h1,h2,_⟩:=sH t (by omega);rw[cF,h1];refine⟨v,rfl,?_⟩;have:LM v=some (four v):=rfl;rw[Aa,this,Aa,FR _ _ (by rw[WK];omega),Aa]
theorem sE (t:ByteArray) (ht:(L t).length<=9223372036854775806):∃u ok,LO t=some (u,ok)/\Rs t=some (u,ok)/\(ok=true->(L u).length<=20000/\∃v,Ph u=some v/\t=u++four v)/\(ok=false->u=bs []):=by
 unfold LO Rs;have e4:sb (FL t) 4=((L t).length:Int)-4:=by rw[B4,Co]
 rw[e4];by_cases h4:(L t).length<4
 ·rw[Ac (by omega:((L t).length:Int)-4<0),Ac (by rw[B4];omega:FL t<4)]
  grind
 rw[Af (by omega:¬((L t).length:Int)-4<0),Af (by rw[B4];omega:¬FL t<4)];have en:((L t).length:Int)-4=(((L t).length-4:Nat):Int):=by omega
 rw[en,B4];have b:sub t 0 (((L t).length-4:Nat):Int)=some (t.extract 0<|(L t).length-4):=Fd t (i:=0) (by omega) (by omega);have a:sub t (((L t).length-4:Nat):Int) ((L t).length:Int)=some (t.extract ((L t).length-4) (L t).length):=Fd t (by omega) (by omega);rw[b,a];simp only[Aa];have hu:(L<|t.extract 0<|(L t).length-4).length=(L t).length-4:=by rw[Ib];simp
 obtain⟨k1,k2⟩:=Ut<|t.extract 0<|(L t).length-4;rw[jY];by_cases hb:20000<(L t).length-4
 ·grind
 obtain⟨v,h1,h2⟩:=k2 (by omega);rw[Af (by omega:¬(((L t).length-4:Nat):Int)>20000),h1,h2];have h3:LM v=some (four v):=rfl;simp only[Ad,Aa,h3,Al];have c:seq (t.extract ((L t).length-4) (L t).length) (four v)=seq (t.extract 0 ((L t).length-4)++four v) t:=by
  rw[RX,RX,DN,Ib,Ib,G9,A5,A5];have e1:List.take ((L t).length-((L t).length-4)) (List.drop ((L t).length-4)<|L t)=(L t).drop ((L t).length-4):=AI (by simp);have e2:List.take ((L t).length-4-0) (List.drop 0<|L t)=(L t).take ((L t).length-4):=by simp
  rw[e1,e2];constructor
  ·intro h;rw[<-h,BU]
  grind
 rw[c]
 cases hs:seq (t.extract 0 ((L t).length-4)++four v) t with
 |false=>grind
 |true=>
  rw[Jo,A5]at hs
  grind
theorem Jc (n:Nat) (h:n<=1099511627776):∃s,H9 (n:Int)=some s/\L s=Cx n:=by
 unfold H9;obtain⟨m,o,h1,h2,h3,h4⟩:=jK (body:=λs:Int×List Int=>Pf s.1 s.2) (λ_ _=>rfl) n [] (by simpa using h);rw[h1,Aa];have:IntKind.u8.wrap (m:Int)=m:=by rw[IntKind.wrap_u8];omega
 rw[this,Bl (by grind),Aa];refine⟨_,rfl,?_⟩;rw[Mo,h4];simp
def AEh (t:ByteArray) (at_:Int) (r:Int×Int×Bool):Prop:=(r.2.2=false/\r.1=0/\r.2.1=0)\/(r.2.2=true/\∃(a b n:Nat),at_=a/\r.2.1=b/\r.1=n/\a<b/\b<=(L t).length/\n<=1000000000/\Cx n=((L t).drop a).take (b-a))
theorem ZR (l:List UInt8) (a k:Nat) (h:a+k<l.length):(l.drop a).take (k+1)=(l.drop a).take k++ [l[a+k]]:=by
 rw[Aj (by simp;omega),VE]
theorem lW (k:Nat) (h:k<5):(128:Nat)^k<=268435456:=by
 have:k<=4:=by omega
 calc 128^k<=128^4:=Nat.pow_le_pow_right (by omega) this
  _=268435456:=by decide
theorem Zl:∀ds:List UInt8,Fu ds<128^ds.length
 |[]=>by simp[Fu]
 |d::ds=>by
  have:=Zl ds;simp only[Fu,AB,vV];omega
theorem AC4 (x k:Nat) (hx:x<128) (hk:k<5):shl .i64 (x:Int) (ml 7 (k:Int))=some ((x*128^k:Nat):Int):=by
 have h7:ml 7 (k:Int)=((7*k:Nat):Int):=by rw[Qf (by omega)<|by omega];omega
 unfold shl;rw[h7,AM<|by omega];have e:(2:Int)^(min ((7*k:Nat):Int).toNat IntKind.i64.bits)=((128^k:Nat):Int):=by
  have hb:IntKind.i64.bits=64:=rfl;have h128:(128:Nat)^k=2^(7*k):=by rw[Nat.pow_mul]
  grind
 rw[e];have hp:=lW k hk;have hm:x*128^k<=128*268435456:=f8 (by omega) hp;have ec:(x:Int)*((128^k:Nat):Int)=((x*128^k:Nat):Int):=by norm_cast
 rw[ec,OO (by omega)<|by omega]
theorem kJ (x:Nat):Int.tmod (x:Int) 128=((x %128:Nat):Int):=rfl
theorem IP (t:ByteArray) (at_:Int) (ht:(L t).length<=4611686018427387904) (o:oI at_):∃r,Kr t at_=some r/\K1 t at_=some r/\AEh t at_ r:=by
 have fails:∀(at_:Int),(at_<0\/((L t).length:Int)<=at_)->oI at_->K1 t at_=some (0,0,false):=by
  intro at_ h o;unfold K1;rw[Aw];simp only[H5];rw[cT];by_cases h0:at_>=0
  ·rw[Ac h0,Ai,B4,Co,Af<|by omega];rfl
  grind
 by_cases h4:0<=at_/\at_<(L t).length
 ·obtain⟨a,rfl⟩:=Cy h4.1;have h5:∀(B1:Int×Int×Int->Option ((Int×Int×Int)⊕Unit⊕(Int×Int×Bool))) (B2:Int×Int->Option ((Int×Int)⊕Unit⊕(Int×Int×Bool))),(∀n sc i,B1 (n,sc,i)=DC t (a:Int) n sc i)->(∀n k,B2 (n,k)=H5 t (a:Int) n k)->∀(m k:Nat),k+m=5->a+k<=(L t).length->(∀d∈((L t).drop a).take k,128<=d.toNat)->
    ∃r,(An B1 (((Fu (((L t).drop a).take k):Nat):Int),((128^k:Nat):Int),((a+k:Nat):Int))=some r/\An B2 (((Fu (((L t).drop a).take k):Nat):Int),(k:Int))=some r)/\(r= .inl ()\/∃q,r= .inr q/\AEh t (a:Int) q):=by
   intro B1 B2 p u m
   induction m with
   |zero=>
    intro k hk h6 hd;have f:k=5:=by omega
    subst f;refine⟨.inl (),⟨?_,?_⟩,.inl rfl⟩
    ·rw[Aw];simp only[p,DC];rw[Cz,Af (by omega:¬((a+5:Nat):Int)<(a:Int)+5)]
     grind
    rw[Aw];simp only[u,H5];rfl
   |succ m ih=>
    intro k hk h6 hd;rw[Aw,Aw B2];simp only[p,u,DC,H5];have f:k<5:=by omega
    rw[Cz (b:=5) (by omega) (by omega),Ac (by omega:((a+k:Nat):Int)<(a:Int)+5),Ac (by omega:(k:Int)<5),Ac (by omega:(a:Int)>=0),B4,Co];by_cases v:a+k<(L t).length
    ·rw[Ac (by omega:((a+k:Nat):Int)<((L t).length:Int)),Ac (by omega:(a:Int)<((L t).length:Int)-k)];have eak:ad (a:Int) (k:Int)=((a+k:Nat):Int):=by rw[Cz];omega
     simp only[Ai,Aa,Fc t v,eak];have hx:=oP<|(L t)[a+k];have j:=ZR (L t) a k v;have w:(((L t).drop a).take k).length=k:=by simp;omega
     have g:=OW (((L t).drop a).take k) [(L t)[a+k]];rw[<-j,w]at g;have h7:=Zl<|((L t).drop a).take k;rw[w]at h7;have hp:=lW k f;generalize a4:(L t)[a+k]=x at hx j g;simp only[Fu,Nat.mul_zero,OS]at g;have hw:IntKind.i64.wrap (x.toNat:Int)=x.toNat:=OO (by omega) (by omega);have a2:x.toNat %128*128^k<=127*268435456:=f8 (by omega) hp;have emul:ml ((x.toNat %128:Nat):Int) ((128^k:Nat):Int)=((x.toNat %128*128^k:Nat):Int):=by
      have ec:((x.toNat %128:Nat):Int)*((128^k:Nat):Int)=((x.toNat %128*128^k:Nat):Int):=by norm_cast
      rw[Qf (by rw[ec];omega) (by rw[ec];omega),ec]
     have enew:ad (((Fu (((L t).drop a).take k):Nat)):Int) ((x.toNat %128*128^k:Nat):Int)=((Fu (((L t).drop a).take<|k+1):Nat):Int):=by
      rw[Cz,g,Nat.mul_comm<|128^k];omega
     rw[hw,kJ,AC4 _ k (by omega) f];simp only[Aa,emul,enew];by_cases l:x.toNat<128
     ·rw[Ac (by omega:(x.toNat:Int)<128),Af (by omega:¬(x.toNat:Int)>=128)];have ek1:ad ((a+k:Nat):Int) 1=((a+k+1:Nat):Int):=ad1 (by omega);have c:=jJ (((L t).drop a).take k) x hd l;rw[<-j]at c;have h8:(((L t).drop a).take k≠ [])↔0<k:=by grind
      rw[h8]at c;have y:sub t (a:Int) ((a+k+1:Nat):Int)=some (t.extract a<|a+k+1):=Fd t (by omega) (by omega);rw[ek1,y];by_cases a3:Fu (((L t).drop a).take<|k+1)>1000000000
      ·rw[Ac (by omega:((Fu (((L t).drop a).take<|k+1):Nat):Int)>1000000000)];refine⟨.inr (0,0,false),⟨rfl,?_⟩,.inr ⟨_,rfl,.inl ⟨rfl,rfl,rfl⟩⟩⟩
       grind
      rw[Af (by omega:¬((Fu (((L t).drop a).take<|k+1):Nat):Int)>1000000000)];obtain⟨s,h9,a0⟩:=Jc (Fu<|((L t).drop a).take<|k+1) (by omega);simp only[Ad,Aa,h9];have z:seq s (t.extract a<|a+k+1)=decide (¬(x.toNat=0/\0<k)):=by
       rw[RX,a0,Ib,show a+k+1-a=k+1 by omega,G9,A5,A5];exact c
      rw[z];by_cases hz:x.toNat=0/\0<k
      ·rw[Af λe=>e hz];refine⟨.inr (0,0,false),⟨rfl,?_⟩,.inr ⟨_,rfl,.inl ⟨rfl,rfl,rfl⟩⟩⟩
       grind
      rw[Ac hz];refine⟨.inr (((Fu (((L t).drop a).take<|k+1):Nat):Int),((a+k+1:Nat):Int),true),⟨rfl,?_⟩,.inr ⟨_,rfl,.inr ⟨rfl,a,a+k+1,_,rfl,rfl,rfl,by omega,by omega,by omega,?_⟩⟩⟩
      ·by_cases a1:x.toNat=0
       ·have:((x.toNat:Int)==0)=true:=by rw[a1];rfl
        rw[this,Af (by omega:¬(k:Int)>0)];rfl
       grind
      rw[show a+k+1-a=k+1 by omega];exact c.2 hz
     rw[Af (by omega:¬(x.toNat:Int)<128),Ac (by omega:(x.toNat:Int)>=128)];have e1:ml ((128^k:Nat):Int) 128=((128^(k+1):Nat):Int):=by
      rw[Qf (by omega) (by omega),vV];norm_cast
     have e2:ad ((a+k:Nat):Int) 1=((a+(k+1):Nat):Int):=ad1 (by omega);have e3:ad (k:Int) 1=((k+1:Nat):Int):=ad1 (by omega);rw[e1,e2,e3];exact ih (k+1) (by omega) (by omega)<|by grind
    rw[Af (by omega:¬((a+k:Nat):Int)<((L t).length:Int)),Af (by omega:¬(a:Int)<((L t).length:Int)-k)];simp
  obtain⟨r,⟨h1,h2⟩,h3⟩:=h5 (λs=>DC t (a:Int) s.1 s.2.1 s.2.2) (λs=>H5 t (a:Int) s.1 s.2) (λ_ _ _=>rfl) (λ_ _=>rfl) 5 0 rfl (by omega) (by simp);unfold Kr K1;have hw:BA (a:Int) 0 (FL t)=some true:=by
   unfold BA;rw[cT,B4,Ac<|by omega]
  rw[hw];simp only[L0,Fu,Nat.pow_zero,OS]at h1 h2;rw[show((0:Nat):Int)=0 from rfl,show((1:Nat):Int)=1 from rfl]at h1;rw[show((0:Nat):Int)=0 from rfl]at h2;rw[h1,h2]
  rcases h3 with rfl|⟨q,rfl,h3⟩
  ·exact⟨_,rfl,rfl,.inl ⟨rfl,rfl,rfl⟩⟩
  grind
 have hf:=fails at_ (by omega) o;refine⟨(0,0,false),?_,hf,.inl ⟨rfl,rfl,rfl⟩⟩;unfold Kr;by_cases h0:0<=at_/\at_<=(L t).length
 ·have hw:BA at_ 0 (FL t)=some true:=by
   unfold BA;rw[cT,B4,Ac<|by omega]
  rw[hw];rw[Aw];simp only[DC];rw[Af (by rw[B4];omega:¬at_<FL t)];rfl
 have hw:BA at_ 0 (FL t)=some false:=by
  unfold BA;by_cases h1:at_>=0
  ·rw[Ac h1,Ai,B4,Af<|by omega]
  grind
 rw[hw];rfl
theorem cV:GF=BA:=rfl
variable {r n x:Int} {R:List Int} {i j k:Nat} {s:Store} {α γ:Type} {v:Vol} {p:Nat->Bool} {l:List α}
theorem Cu {i:Int} {x:α} (h:gi l i=some x):0<=i/\l[i.toNat]?=some x:=by
 unfold gi at h
 grind
theorem RC:Od=Gb:=by
 have h2:NN=E9:=by
  funext x y;unfold NN E9
  cases decide (y<ln x.Leaves)with
  |false=>rfl
  |true=>
   cases gi x.Leaves y with
   |none=>rfl
   |some z=>rfl
 funext f;unfold Od Gb;have:NO f=EA f:=by
  funext i;unfold NO EA;rw[h2];rfl
 rw[this];rfl
def Kf (f:Flash):Prop:=f.Blocks.length<=1048576/\∀b∈f.Blocks,b.Leaves.length<=1048576
theorem RZ (x a b:Int):BA x a b=some (decide (a<=x)&&decide (x<=b)):=by
 unfold BA
 grind
theorem ADw (x:Leaf):∃v,NW x=some v:=by
 unfold NW;cases x.Is==0
 ·cases x.Is==1
  ·cases x.Is==2<;>exact⟨_,rfl⟩
  simp only[Ai,RZ,Aa];exact⟨_,rfl⟩
 exact⟨_,rfl⟩
theorem VA (f:Flash) (h:Kf f):∃v,Gb f=some v/\(v=true->f.Blocks.length<=10/\∀b∈f.Blocks,b.Leaves.length=4):=by
 have a:=AJ (body:=λs:Int=>EA f s) (λ(_:Unit) i=>i) f.Blocks.length (λi _=>∀j b,j<i->f.Blocks[j]?=some b->b.Leaves.length=4) (λr=>r= .inr false\/r= .inl ()/\∀b∈f.Blocks,b.Leaves.length=4)
  (λs i hi hs=>by
   obtain⟨x,hx⟩:∃x,f.Blocks[i]?=some x:=⟨_,Ab hi⟩;have hM:=h.1;simp only[EA,DF hi,Au,hx,Aa,RZ];by_cases h4:x.Leaves.length=4
   ·have e1:(ln x.Leaves !=4)=false:=by simp[ln,h4]
    simp only[e1,Ad,Aa]
    cases hw:(decide (0<=x.Wear)&&decide (x.Wear<=1000000000))with
    |false=>grind
    |true=>
     simp only[Al,Ad];obtain⟨r,h5,h6⟩:=AJ (body:=λs:Int=>E9 x s) (λ(_:Unit) i=>i) x.Leaves.length (λ_ _=>True) (λr=>r= .inl ()\/r= .inr (.inr<|.inr false))
      (λs k hk _=>by
       obtain⟨y,hy⟩:∃y,x.Leaves[k]?=some y:=⟨_,Ab hk⟩;obtain⟨v,hv⟩:=ADw y;simp only[E9,DF hk,Au,hy,Aa,hv];have fin:∀j:Bool,(∃s':Unit,(bif j then some (.inr<|.inr<|.inr<|.inr false)else some (.inl<|ad (k:Int) 1):Option (Int⊕Unit⊕Int⊕Unit⊕Bool))=some (.inl (((k+1:Nat)):Int))/\True)\/∃b,(bif j then some (.inr<|.inr<|.inr<|.inr false)else some (.inl<|ad (k:Int) 1):Option (Int⊕Unit⊕Int⊕Unit⊕Bool))=some (.inr b)/\(b= .inl ()\/b= .inr (.inr<|.inr false)):=by
        intro j
        cases j with
        |true=>grind
        |false=>exact .inl ⟨(),by rw[Ad,ad1],trivial⟩
       cases v with
       |false=>exact fin true
       |true=>
        by_cases c:0<k
        ·rw[cT,Co,Lo (by omega) (by omega),Aa];cases(x.Leaves[((k:Int)-1).toNat]'(by omega)).Is==0
         ·exact fin false
         exact fin<|y.Is !=0
        rw[Af (by omega:¬(k:Int)>0)]
        exact fin false)
      (λs _=>⟨_,by simp only[E9,Du],.inl rfl⟩) (s:=()) trivial
     rw[h5,Aa]
     rcases h6 with rfl|rfl
     ·refine .inl ⟨(),by rw[Cq,ad1],?_⟩
      grind
     grind
   have e1:(ln x.Leaves !=4)=true:=by simp[ln];omega
   grind)
  (λs hs=>⟨_,by simp only[EA,Du],.inr ⟨rfl,λb hb=>by
   obtain⟨j,hj,e⟩:=A4 hb
   exact hs j b hj<|by grind⟩⟩) (s:=()) (λj b hj=>absurd hj<|by omega)
 obtain⟨r,h1,h2⟩:=a;unfold Gb;rw[h1,Aa]
 rcases h2 with rfl|⟨rfl,h2⟩
 ·simp
 simp only[Cq,RZ,Aa];refine⟨_,rfl,λe=>⟨?_,h2⟩⟩;rw[Ag,A5,A5,Bk]at e;omega
theorem Uu (p:Page):∃v,KP p=some v/\Tf p=some v/\(v=true->(p.Kind=1\/p.Kind=2)/\(1<=p.Seq/\p.Seq<=1000000000)/\(1<=p.Tx/\p.Tx<=1000000000)/\(1<=p.Count/\p.Count<=9)/\(0<=p.Part/\p.Part<p.Count)/\FL p.Text<=90):=by
 unfold KP Tf;rw[cV];simp only[RZ,Aa];by_cases h1:1<=p.Seq/\p.Seq<=1000000000
 ·by_cases h2:1<=p.Tx/\p.Tx<=1000000000
  ·by_cases h3:1<=p.Count/\p.Count<=9
   ·have e:sb p.Count 1=p.Count-1:=Co (by omega) (by omega);rw[e];by_cases h4:0<=p.Part/\p.Part<=p.Count-1
    ·by_cases h5:FL p.Text>90
     ·refine⟨false,?_,?_,by simp⟩
      ·grind
      grind
     by_cases k2:p.Kind=2
     ·exact⟨true,by grind,by grind,λ_=>⟨.inr k2,h1,h2,h3,⟨h4.1,by omega⟩,by omega⟩⟩
     by_cases k1:p.Kind=1
     ·exact⟨p.Count==1,by grind,by grind,λ_=>⟨.inl k1,h1,h2,h3,⟨h4.1,by omega⟩,by omega⟩⟩
     have hk:(decide (1<=p.Kind)&&decide (p.Kind<=2))=false:=by grind
     exact⟨false,by simp[hk],by grind,by simp⟩
    refine⟨false,?_,?_,by simp⟩
    ·grind
    grind
   have e3:(decide (1<=p.Count)&&decide (p.Count<=9))=false:=by grind
   refine⟨false,?_,?_,by simp⟩
   ·grind
   simp[h1,h2,e3]
  have e2:(decide (1<=p.Tx)&&decide (p.Tx<=1000000000))=false:=by grind
  refine⟨false,?_,?_,by simp⟩
  ·grind
  simp[h1,e2]
 have e1:(decide (1<=p.Seq)&&decide (p.Seq<=1000000000))=false:=by grind
 refine⟨false,?_,?_,by simp⟩
 ·grind
 simp[e1]
def iO:Page:=Page.mk 0 0 0 0 0<|bs []
theorem I8 (u:ByteArray) (a:Int) (hu:(L u).length<=20000) (ha:oI a):Df (Ew.mk u a true)=some (0,Ew.mk u a true):=by
 obtain⟨r,h1,_,_⟩:=IP u a (by omega) ha;unfold Df
 grind
theorem Kz {r:Int×Int×Bool} (u:ByteArray) (a:Int) (hu:(L u).length<=20000) (h:Kr u a=some r):Df (Ew.mk u a false)=some (cond r.2.2 (r.1,Ew.mk u r.2.1 false) (0,Ew.mk u a true)):=by
 unfold Df
 grind
theorem RI {a b:Nat} (l:List UInt8) (h:a<=b):l.drop a=(l.drop a).take (b-a)++l.drop b:=by
 have:=(BU (b-a)<|l.drop a).symm;rw[C9,show a+(b-a)=b by omega]at this;exact this
theorem YP (p:Page) (u:ByteArray) (k:UInt8) (n1 n2 n3 n4:Nat) (hp:KP p=some true) (hk:p.Kind=(k.toNat:Int)) (h1:p.Seq=n1) (h2:p.Tx=n2) (h3:p.Part=n3) (h4:p.Count=n4) (b1:n1<=1000000000) (b2:n2<=1000000000) (b3:n3<=1000000000) (b4:n4<=1000000000) (hu:(L u).length<=20000) (e:L u=[k]++Cx n1++Cx n2++Cx n3++Cx n4++L p.Text):Eu p=KK u:=by
 obtain⟨s1,q1,r1⟩:=Jc n1 (by omega);obtain⟨s2,q2,r2⟩:=Jc n2 (by omega);obtain⟨s3,q3,r3⟩:=Jc n3 (by omega);obtain⟨s4,q4,r4⟩:=Jc n4 (by omega);have hl:=BQ List.length e;have hb:Ko p.Kind=some (Fe [IntKind.u8.wrap p.Kind]):=rfl;have a:L (Fe [IntKind.u8.wrap p.Kind])=[k]:=by
  rw[Mo,hk,IntKind.wrap_u8];have:=oP k;have e2:((k.toNat:Int) %256).toNat=k.toNat:=by omega
  simp only[CM,vX,e2,UInt8.ofNat_toNat]
 unfold Eu;rw[hp];simp only[Aa,Al,Ad,hb,h1,h2,h3,h4,q1,q2,q3,q4];rw[FR _ _ (by grind),Aa,FR _ _ (by rw[DN,a,r1,r2];grind),Aa,FR _ _ (by rw[DN,DN,a,r1,r2,r3];grind),Aa,FR _ _ (by rw[DN,DN,DN,a,r1,r2,r3,r4];grind),Aa,FR _ _ (by rw[DN,DN,DN,DN,a,r1,r2,r3,r4];grind),Aa];have:Fe [IntKind.u8.wrap p.Kind]++s1++s2++s3++s4++p.Text=u:=by
  apply JL;rw[DN,DN,DN,DN,DN,a,r1,r2,r3,r4,e]
 rw[this]
 cases KK u with
 |none=>rfl
 |some v=>rfl
theorem IQ (t:ByteArray) (ht:(L t).length<=9223372036854775806):∃p ok,F9 t=some (p,ok)/\Ry t=some (p,ok)/\(ok=false->p=iO)/\(ok=true->KP p=some true):=by
 obtain⟨u,uok,j,k,m,n⟩:=sE t ht;unfold F9 Ry;rw[j,k];simp only[Aa];have o1:oI 1:=⟨by omega,by omega⟩
 cases uok with
 |false=>
  have:=n rfl;subst this;have hz:(L<|bs []).length<=20000:=by rw[Es];simp
  exact⟨iO,false,rfl,rfl,λ_=>rfl,by simp⟩
 |true=>
  obtain⟨e,v,hv,o⟩:=m rfl;simp only[Al,Ad,Aa];by_cases he:(L u).length<1
  ·have g:seq u (bs [])=true:=by
    rw[RX,A5,Es]
    grind
   rw[Ac (by rw[B4];omega:FL u<1),g];simp only[Ai,I8 _ _ e o1,Aa];exact⟨iO,false,rfl,rfl,λ_=>rfl,by simp⟩
  have g:seq u (bs [])=false:=by
   rw[RX,Gj,Es]
   grind
  rw[Af (by rw[B4];omega:¬FL u<1),g];simp only[Ad];have four_:∀(B:Int×Int×Int×Int×Int×Int->Option ((Int×Int×Int×Int×Int×Int)⊕(Int×Int×Int×Int×Int)⊕(Page×Bool))),(∀x y a b c d,B (x,y,a,b,c,d)=EI (u,true) x y a b c d)->
    ∃(a:Int) (m1 m2 m3 m4:Int) (bad:Bool),(∃c1 c2 c3,Df (Ew.mk u 1 false)=some (m1,c1)/\Df c1=some (m2,c2)/\Df c2=some (m3,c3)/\Df c3=some (m4,Ew.mk u a bad))/\
     An B (1,0,0,0,0,0)=some (bif bad then .inr (iO,false)else .inl (a,m1,m2,m3,m4))/\(bad=false->∃(a1 a2 a3 a4 n1 n2 n3 n4:Nat),m1=n1/\m2=n2/\m3=n3/\m4=n4/\a=a4/\1<a1/\a1<a2/\a2<a3/\a3<a4/\a4<=(L u).length/\n1<=1000000000/\n2<=1000000000/\n3<=1000000000/\n4<=1000000000/\
      Cx n1=((L u).drop 1).take (a1-1)/\Cx n2=((L u).drop a1).take (a2-a1)/\Cx n3=((L u).drop a2).take (a3-a2)/\Cx n4=((L u).drop a3).take (a4-a3)):=by
   intro B hB;obtain⟨r1,p1,q1,w1⟩:=IP u 1 (by omega) o1;have g1:=Kz u 1 e p1;rw[Aw,hB];unfold EI;rw[cT,q1,Aa]
   rcases w1 with⟨w1,w2,w3⟩|⟨w1,a0',a1,n1,z0,z1,z2,z3,z4,z5,z6⟩
   ·rw[w1]at g1⊢;exact⟨1,0,0,0,0,true,⟨_,_,_,g1,I8 u 1 e o1,I8 u 1 e o1,I8 u 1 e o1⟩,rfl,by simp⟩
   have ea0:a0'=1:=by omega
   subst ea0;rw[w1]at g1⊢;have x1:oI r1.2.1:=⟨by omega,by omega⟩;simp only[Al,Ad,Ai]at g1⊢;rw[show((0:Int)==0)=true from rfl,Ai,show ad 0 1=1 from ad1 (i:=0)<|by omega];simp only;obtain⟨r2,p2,q2,y1⟩:=IP u r1.2.1 (by omega) x1;have g2:=Kz u r1.2.1 e p2;rw[Aw,hB];unfold EI;rw[cT,q2,Aa]
   rcases y1 with⟨y1,_,_⟩|⟨y1,b0,a2,n2,y2,y3,y4,y5,y6,y7,y8⟩
   ·rw[y1]at g2⊢;exact⟨r1.2.1,r1.1,0,0,0,true,⟨_,_,_,g1,g2,I8 u _ e x1,I8 u _ e x1⟩,rfl,by simp⟩
   have eb:b0=a1:=by omega
   subst eb;rw[y1]at g2⊢;have x2:oI r2.2.1:=⟨by omega,by omega⟩;simp only[Al,Ad,Ai]at g2⊢;rw[show((1:Int)==0)=false from rfl,Ad,show((1:Int)==1)=true from rfl,Ai,show ad 1 1=2 from ad1 (i:=1)<|by omega];simp only;obtain⟨r3,p3,q3,k1⟩:=IP u r2.2.1 (by omega) x2;have g3:=Kz u r2.2.1 e p3;rw[Aw,hB];unfold EI;rw[cT,q3,Aa]
   rcases k1 with⟨k1,_,_⟩|⟨k1,c0,a3,n3,k2,k3,k4,k5,k6,k7,k8⟩
   ·rw[k1]at g3⊢;exact⟨r2.2.1,r1.1,r2.1,0,0,true,⟨_,_,_,g1,g2,g3,I8 u _ e x2⟩,rfl,by simp⟩
   have ec:c0=a2:=by omega
   subst ec;rw[k1]at g3⊢;have x3:oI r3.2.1:=⟨by omega,by omega⟩;simp only[Al,Ad,Ai]at g3⊢;rw[show((2:Int)==0)=false from rfl,Ad,show((2:Int)==1)=false from rfl,Ad,show((2:Int)==2)=true from rfl,Ai,show ad 2 1=3 from ad1 (i:=2)<|by omega];simp only;obtain⟨r4,p4,q4,l1⟩:=IP u r3.2.1 (by omega) x3;have g4:=Kz u r3.2.1 e p4;rw[Aw,hB];unfold EI;rw[cT,q4,Aa]
   rcases l1 with⟨l1,_,_⟩|⟨l1,d0,a4,n4,l2,l3,l4,l5,l6,l7,l8⟩
   ·rw[l1]at g4⊢;exact⟨r3.2.1,r1.1,r2.1,r3.1,0,true,⟨_,_,_,g1,g2,g3,g4⟩,rfl,by simp⟩
   have ed:d0=a3:=by omega
   subst ed;rw[l1]at g4⊢;simp only[Al,Ad,Ai]at g4⊢;rw[show((3:Int)==0)=false from rfl,Ad,show((3:Int)==1)=false from rfl,Ad,show((3:Int)==2)=false from rfl,Ad,show((3:Int)==3)=true from rfl,Ai,show ad 3 1=4 from ad1 (i:=3)<|by omega];simp only;rw[Aw,hB];unfold EI;rw[cF];exact⟨r4.2.1,r1.1,r2.1,r3.1,r4.1,false,⟨_,_,_,g1,g2,g3,g4⟩,rfl,λ_=>⟨b0,c0,d0,a4,n1,n2,n3,n4,z2,y4,k4,l4,l3,z3,y5,k5,l5,l6,z5,y7,k7,l7,z6,y8,k8,l8⟩⟩
  obtain⟨a,m1,m2,m3,m4,bad,⟨c1,c2,c3,f1,f2,f3,f4⟩,f5,f6⟩:=four_ (λs:Int×Int×Int×Int×Int×Int=>EI (u,true) s.1 s.2.1 s.2.2.1 s.2.2.2.1 s.2.2.2.2.1 s.2.2.2.2.2) λ_ _ _ _ _ _=>rfl;rw[f5];simp only[f1,f2,f3,f4,Aa]
  cases bad with
  |true=>exact⟨iO,false,rfl,rfl,λ_=>rfl,by simp⟩
  |false=>
   obtain⟨a1,a2,a3,a4,n1,n2,n3,n4,rfl,rfl,rfl,rfl,rfl,i1,i2,i3,i4,i5,j1,j2,j3,j4,s1,s2,s3,s4⟩:=f6 rfl;simp only[Ad,Aa,Cq];have q:sx u 0=some (((L u)[0]'(by omega)).toNat:Int):=Fc u (i:=0) (by omega);have h:sub u (a4:Int) (FL u)=some (u.extract a4 (L u).length):=by rw[B4];exact Fd u (by omega)<|by omega
   rw[q,h];simp only[Aa];have hk:=oP ((L u)[0]'(by omega));have hw:IntKind.i64.wrap (((L u)[0]'(by omega)).toNat:Int)=((L u)[0]'(by omega)).toNat:=OO (by omega) (by omega);rw[hw];obtain⟨po,po1,po2,_⟩:=Uu (Page.mk (((L u)[0]'(by omega)).toNat:Int) n1 n2 n3 n4<|u.extract a4 (L u).length);rw[po2]
   cases po with
   |false=>
    have:Eu (Page.mk (((L u)[0]'(by omega)).toNat:Int) n1 n2 n3 n4<|u.extract a4 (L u).length)=some (bs [],false):=by
     unfold Eu;rw[po1];rfl
    rw[this];exact⟨iO,false,rfl,rfl,λ_=>rfl,by simp⟩
   |true=>
    have hT:L (u.extract a4 (L u).length)=(L u).drop a4:=by
     rw[Ib];exact AI<|by simp
    have f:L u=[(L u)[0]'(by omega)]++Cx n1++Cx n2++Cx n3++Cx n4++L (u.extract a4 (L u).length):=by
     rw[hT,s1,s2,s3,s4];have h0:L u=[(L u)[0]'(by omega)]++(L u).drop 1:=by
      have:=AH (l:=L u) (i:=0) (by omega);simpa using this
     have d1:=RI (L u) (a:=1) (b:=a1) (by omega);have d2:=RI (L u) (a:=a1) (b:=a2) (by omega);have d3:=RI (L u) (a:=a2) (b:=a3) (by omega);have d4:=RI (L u) (a:=a3) (b:=a4) (by omega);simp only[AE];rw[<-d4,<-d3,<-d2,<-d1];exact h0
    rw[YP _ u ((L u)[0]'(by omega)) n1 n2 n3 n4 po1 rfl rfl rfl rfl rfl j1 j2 j3 j4 e f];obtain⟨v',hv',hs'⟩:=(Ut u).2 e;rw[hv]at hv'
    injection hv' with hv'
    subst hv';rw[hs',Aa];have:seq (u++four v) t=true:=by rw[Jo,A5];exact o.symm
    simp only[Al,Ad,Aa,this];exact⟨_,true,rfl,rfl,by simp,λ_=>po1⟩
def PO (x:Leaf):Nat:=x.Text.size
def KC (x:Block):Nat:=zl PO x.Leaves
def Ol (x:Flash):Nat:=zl KC x.Blocks
theorem ADR (f:Flash) (h:Ol f<=1048576):Kf f/\∀b∈f.Blocks,∀x∈b.Leaves,(L x.Text).length<=1048576:=by
 have h1:=So (z:=KC) (l:=f.Blocks);unfold Ol at h;refine⟨⟨by omega,λb hb=>?_⟩,λb hb x hx=>?_⟩
 ·have h2:=kC (z:=KC) hb;have h3:=So (z:=PO) (l:=b.Leaves);have e:KC b=zl PO b.Leaves:=rfl;omega
 have h2:=kC (z:=KC) hb;have h3:=kC (z:=PO) hx;have e:KC b=zl PO b.Leaves:=rfl;have e2:PO x=x.Text.size:=rfl;rw[XZ];omega
def nl (l:List Block):Nat:=(l.map λb=>b.Leaves.length).sum
theorem AFQ (f:Flash):nl f.Blocks<=Ol f:=by
 unfold nl Ol zl;have:∀l:List Block,(l.map λb=>b.Leaves.length).sum<=(l.map KC).sum:=by
  intro l
  induction l with
  |nil=>simp
  |cons b l ih=>
   have:=So (z:=PO) (l:=b.Leaves);have e:KC b=zl PO b.Leaves:=rfl
   grind
 grind
def SQ (f:Flash) (y:Ap):Prop:=∃b x,gi f.Blocks y.Block=some b/\gi b.Leaves y.Leaf=some x/\(x.Is==1)=true/\F9 x.Text=some (y.Page,true)
theorem YM {b:Block} {x:Leaf} (f:Flash) (hf:Kf f) (hb:f.Blocks[i]?=some b) (hx:b.Leaves[k]?=some x):QM f i k=some (cond (x.Is==1) (x.Text,true) (bs [],false)):=by
 have h1:=(Ae.1 hb).1;have h2:=(Ae.1 hx).1;have h3:=hf.1;have h4:=hf.2 b<|Ar hb;unfold QM;rw[Co (by rw[Bk];omega) (by rw[Bk];omega),RZ,Bk,Ac (by omega:(0:Int)<=(i:Int)),Ac (by omega:(i:Int)<=(f.Blocks.length:Int)-1)];simp only[Aa,Xb,Al,Ad,Au,hb];rw[Co (by rw[Bk];omega) (by rw[Bk];omega),RZ,Bk,Ac (by omega:(0:Int)<=(k:Int)),Ac (by omega:(k:Int)<=(b.Leaves.length:Int)-1)]
 grind
theorem cZ (f:Flash) (hf:Kf f) (hT:∀b∈f.Blocks,∀x∈b.Leaves,(L x.Text).length<=1048576) (hn:nl f.Blocks<=1048576):
  ∃X,An (λs:List Ap×Int=>E7 f s.1 s.2) ([],0)=some X/\An (λs:Int×List Ap=>Ji f s.1 s.2) (0,[])=some X/\X.length<=nl f.Blocks/\∀y∈X,SQ f y:=by
 refine MW (body:=λs:List Ap×Int=>E7 f s.1 s.2) (body':=λs:Int×List Ap=>Ji f s.1 s.2) (λs i=>(s,i)) (λs i=>(i,s)) f.Blocks.length (λi a=>a.length<=((f.Blocks.take i).map λb=>b.Leaves.length).sum/\∀y∈a,SQ f y) (λX=>X.length<=nl f.Blocks/\∀y∈X,SQ f y) ?_ ?_ (s:=[]) ⟨by simp,by simp⟩
 ·intro a i hi ⟨c,d⟩;have hb:f.Blocks[i]?=some f.Blocks[i]:=Ab hi;have hm:f.Blocks[i]∈f.Blocks:=Ax _;have h:=Su (λb:Block=>b.Leaves.length) f.Blocks i hi;have j:=OX (λb:Block=>b.Leaves.length) f.Blocks<|i+1;unfold nl at hn;have l:=hf.1;refine .inl ?_;simp only[E7,Ji,DF hi,Au,hb,Aa];obtain⟨u,q1,q2,q3⟩:=MW (body:=λs:List Ap×Int=>Gw f (i:Int) s.1 s.2) (body':=λs:Int×List Ap=>Li (i:Int) f.Blocks[i] s.1 s.2) (λs i=>(s,i)) (λs i=>(i,s)) f.Blocks[i].Leaves.length (λk u=>u.length<=a.length+k/\∀y∈u,SQ f y) (λu=>u.length<=a.length+f.Blocks[i].Leaves.length/\∀y∈u,SQ f y)
   (λu k hk hu=>by
    have hx:f.Blocks[i].Leaves[k]?=some f.Blocks[i].Leaves[k]:=Ab hk
    have g:∀y:Ap,ap 72 u [y]=some (u++ [y]):=λy=>Bl<|by grind
    refine .inl ?_;obtain⟨p,ok,r1,r2,r3,r4⟩:=IQ f.Blocks[i].Leaves[k].Text (by grind);simp only[Gw,Li,DF hk,Au,hb,hx,Aa,YM f hf hb hx,r2,g]
    cases e:f.Blocks[i].Leaves[k].Is==1 with
    |false=>
     obtain⟨p',ok',t1,_⟩:=IQ (bs []) (by rw[Es];simp);simp only[Ad,Aa,t1];refine⟨u,by rw[ad1],by cases ok<;>(simp only[Ai,Ad,Aa];rw[ad1]),by omega,hu.2⟩
    |true=>
     simp only[Ai,Aa,r1]
     cases ok with
     |false=>exact⟨u,by simp only[Ad];rw[ad1],by simp only[Ad,Aa];rw[ad1],by omega,hu.2⟩
     |true=>
      refine⟨u++ [Ap.mk i k p],by simp only[Ai];rw[ad1],by simp only[Ai,Aa];rw[ad1],by grind,λy hy=>?_⟩
      rcases Ao.1 hy with hy|hy
      ·exact hu.2 y hy
      rw[Bj]at hy;subst hy
      exact⟨_,_,by simp only[Au];exact hb,by simp only[Au];exact hx,e,r1⟩)
   (λu hu=>⟨u,by simp only[Gw,Au,hb,Aa,Du],by simp only[Li,Du],hu⟩) (s:=a) ⟨by omega,d⟩
  rw[q1,q2,Aa,ad1]
  grind
 intro a ⟨c,d⟩;refine⟨a,by simp only[E7,Du],by simp only[Ji,Du],?_,d⟩;rw[F7]at c;exact c
theorem nF {l:List γ} {i j:Int} {x y:γ} (h:gi l j=some y):∃z,gi (si l i x) j=some z:=by
 obtain⟨h1,h2⟩:=Cu h;have:=(Ae.1 h2).1;unfold gi;rw[AG h1];exact⟨_,Ab (by simp only[si,Kh];exact this)⟩
theorem tF (l:List Ap) (k:Int):KL l k=(Bm (Oc B9) 0 k l).map (Sum.map (λs=>(s.2,s.1)) id):=by
 unfold KL Bm gi2 tE
 cases hk:decide (k>0)with
 |false=>rfl
 |true=>
  cases h1:gi l (sb k 1)with
  |none=>simp
  |some x=>
   cases h2:gi l k with
   |none=>simp
   |some y=>
    simp only[Aa];have e:(decide<|x.Page.Seq>y.Page.Seq)=Oc B9 y x:=rfl;rw[e]
    cases Oc B9 y x with
    |false=>rfl
    |true=>
     obtain⟨z,hz⟩:=nF (i:=k) (x:=x) h1;rw[hz];rfl
theorem AC0 {l l':List γ} {i j:Int} (h:tE l i j=some l'):l'.length=l.length:=by
 unfold tE at h;obtain⟨x,_,h⟩:=Ah.1 h;obtain⟨y,_,h⟩:=Ah.1 h
 injection h with h
 subst h;simp[si]
theorem ADF {a j:Int} {l r:List Ap} (h:An (λs:Int×List Ap=>Bm (Oc B9) a s.1 s.2) (j,l)=some r):r.length=l.length:=by
 refine z7 (λs:Int×List Ap=>s.2.length=l.length) (λr=>r.length=l.length) ?_ ?_ (s:=(j,l)) rfl h
 ·rintro⟨j,m⟩ s' hm hb;obtain⟨c,_,hb⟩:=Ah.1 hb
  cases c with
  |false=>cases hb
  |true=>
   obtain⟨m',h1,hb⟩:=Ah.1 hb
   injection hb with hb
   injection hb with hb
   subst hb;exact(AC0 h1).trans hm
 rintro⟨j,m⟩ b hm hb;obtain⟨c,_,hb⟩:=Ah.1 hb
 cases c with
 |false=>grind
 |true=>
  obtain⟨m',h1,hb⟩:=Ah.1 hb;cases hb
theorem dN (f:Flash) (hf:Kf f) (hT:∀b∈f.Blocks,∀x∈b.Leaves,(L x.Text).length<=1048576) (hn:nl f.Blocks<=1048576):
  ∃r,Fx f=some r/\Gg f=some r/\r.length<=nl f.Blocks/\(∀y∈r,SQ f y)/\srt B9 r:=by
 obtain⟨X,h1,h2,h3,h4⟩:=cZ f hf hT hn;obtain⟨r,h5,h6,h7⟩:=gT B9 X (by omega);obtain⟨r',h8,h9,h10⟩:=Je B9 [] X [] (by grind);have hr:r'=r:=Oq B9 h9 h6 (λk=>by rw[h7 k,<-h10 k]);subst hr;refine⟨r',?_,?_,?_,?_,h6⟩
 ·unfold Fx;rw[h1,Aa];simp only[A3,AC,El,HX]at h8;unfold BV at h8;have hc:An (λs:List Ap×Int=>KM s.1 s.2) (X,1)=An (λs:Int×List Ap=>Bg (Oc B9) ((0:Nat):Int) (X.length:Int) s.1 s.2) (1,X):=by
   refine qK (body:=λs:Int×List Ap=>Bg (Oc B9) ((0:Nat):Int) (X.length:Int) s.1 s.2) (body':=λs:List Ap×Int=>KM s.1 s.2) (λs=>(s.2,s.1)) (λs=>s.2.length=X.length) ?_ ?_ (1,X) rfl
   ·rintro⟨j,m⟩ hm;simp only[KM,Bg,Bk,hm]
    cases decide (j<(X.length:Int))with
    |false=>rfl
    |true=>
     rw[uL (body:=λs:Int×List Ap=>Bm (Oc B9) ((0:Nat):Int) s.1 s.2) (body':=λs:List Ap×Int=>KL s.1 s.2) (λs=>(s.2,s.1)) (λs=>tF s.2 s.1) (j,m)];cases An (λs:Int×List Ap=>Bm (Oc B9) ((0:Nat):Int) s.1 s.2) (j,m)<;>rfl
   rintro⟨j,m⟩ s' hm hb;simp only[Bg]at hb
   cases hc:decide (j<(X.length:Int))with
   |false=>grind
   |true=>
    rw[hc,Ai]at hb;obtain⟨m',h1,hb⟩:=Ah.1 hb
    injection hb with hb
    injection hb with hb
    subst hb;exact(ADF h1).trans hm
  rw[hc];exact h8
 ·unfold Gg
  grind
 ·rw[<-h7.len];exact h3
 exact λy hy=>h4 y<|(h7.mem).1 hy
theorem OA {S:Type} {body:S->Option (S⊕List α)} (a:List α->Int->S) (g:Nat->α->α) (l0:List α) (h1:∀(i:Nat) (l:List α) x,l.length=l0.length->l[i]?=some x->l0[i]?=some x->body (a l (i:Nat))=some (.inl (a (l.set i (g i x)) ((i+1:Nat):Int)))) (h2:∀l:List α,l.length=l0.length->body (a l (l0.length:Nat))=some (.inr l)):An body (a l0 0)=some (l0.mapIdx g):=by
 obtain⟨b,h3,h4⟩:=AJ (body:=body) a l0.length (λi l=>l.length=l0.length/\∀j,l[j]?=if j<i then(l0[j]?).map (g j)else l0[j]?) (λb=>b=l0.mapIdx g)
  (λl i hi hs=>by
   obtain⟨hl,hs⟩:=hs;have c:l0[i]?=some l0[i]:=Ab hi;have hx:l[i]?=some l0[i]:=by grind
   refine .inl ⟨_,h1 i l _ hl hx c,by grind,λj=>?_⟩;by_cases e:i=j
   ·grind
   grind)
  (λl hs=>⟨l,h2 l hs.1,by
   apply BO
   grind⟩) (s:=l0) ⟨rfl,λj=>by rfl⟩
 rw[h3,h4]
abbrev Ks:=List Br
def dk:Br:=Br.mk true []
def B8 (K:Ks) (i:Int):Br:=(gi K i).getD dk
def MX (k:Br) (j:Nat):Int:=(k.Kids[j]?).getD 0
def Ri (K:Ks) (i:Nat) (leaf:Bool) (n:Int):Bool:=bif leaf then decide (0<=n)else(n== -1||(decide (0<=n/\n<=(i:Int)-1)&&(B8 K n).Leaf))
def CK (K:Ks):Bool:=K.zipIdx.all λz=>z.1.Kids.length==4&&z.1.Kids.all (Ri K z.2 z.1.Leaf)
def Dy (K:Ks) (r:Int):Bool:=r== -1||(decide (0<=r/\r<(K.length:Int))&&!(B8 K r).Leaf)
def Se (K:Ks) (root:Int) (s:Nat):Int:=if root<0 then 0 else if MX (B8 K root) (s/4)<0 then 0 else MX (B8 K<|MX (B8 K root)<|s/4)<|s %4
def EG (K:Ks) (root:Int):List Int:=(List.range 16).map<|Se K root
variable {K X:Ks}
theorem OB (h:i<K.length):B8 K (i:Int)=K[i]:=by
 unfold B8;rw[Au,Ab h];rfl
theorem Ia {i:Int} (h0:0<=i) (h:i<(K.length:Int)):gi K i=some (B8 K i):=by
 unfold B8;rw[Lo h0 h];rfl
theorem Di (x a b:Int):BA x a b=some (decide (a<=x/\x<=b)):=by
 rw[RZ];simp
theorem GI:CK K=true↔∀i:Nat,i<K.length->(B8 K (i:Int)).Kids.length=4/\∀n∈(B8 K (i:Int)).Kids,Ri K i (B8 K (i:Int)).Leaf n=true:=by
 unfold CK;rw[XY];constructor
 ·intro h i hi;have:=h (K[i],i) (by grind);rw[OB hi]
  grind
 intro h z hz;rw[List.mem_zipIdx_iff_getElem?]at hz;obtain⟨a,hz⟩:=Ae.1 hz;have:=h z.2 a;rw[OB a,hz]at this
 grind
theorem KR (a:Arena) (ha:a.Knots.length<=1048576):GY a=some (CK a.Knots):=by
 unfold GY;have h:=bN (body:=λs:Int=>Eb a s) a.Knots (λi k=>k.Kids.length==4&&k.Kids.all (Ri a.Knots i k.Leaf)) (.inr false) (.inl ()) (by omega)
  (λi k hk=>by
   have hi:=(Ae.1 hk).1;simp only[Eb,DF hi,Au,hk,Aa];by_cases h4:k.Kids.length=4
   ·have e1:(ln k.Kids !=4)=false:=by simp[ln,h4]
    have e2:(k.Kids.length==4)=true:=by simp[h4]
    simp only[e1,Ad,e2,Q9];have q:=bN (body:=λs:Int=>EF a (i:Int) k s) k.Kids (λ_ n=>Ri a.Knots i k.Leaf n) (.inr<|.inr<|.inr false) (.inl ()) (by omega)
     (λj n hn=>by
      have hj:=(Ae.1 hn).1;simp only[EF];rw[cT,Au,hn];simp only[Aa,Ri]
      cases hl:k.Leaf with
      |true=>
       simp only[Ai,Al,Ad];by_cases h0:n<0
       ·grind
       rw[Af h0,Ac (by omega:0<=n)];simp only[Ad,Aa,Ai];rw[ad1]
      |false=>
       simp only[Ad,Cm,Ai];by_cases h1:n= -1
       ·subst h1;simp only[Gk,Ad,Aa,BEq.rfl,Bool.true_or,Ai];rw[ad1]
       have e3:(n != -1)=true:=by simp[h1]
       have e4:(n== -1)=false:=by simp[h1]
       rw[e3,e4];simp only[Ai,oL];rw[Co,Di];simp only[Aa];by_cases h2:0<=n/\n<=(i:Int)-1
       ·rw[Ac h2];simp only[Al,Ad];rw[Ia h2.1<|by omega];simp only[Aa,Q9]
        cases(B8 a.Knots n).Leaf with
        |true=>simp only[Al,Ad,Ai];rw[ad1]
        |false=>rfl
       grind)
     (by simp only[EF];rw[cF])
    rw[q];have hz:(k.Kids.zipIdx.all λz=>Ri a.Knots i k.Leaf z.1)=k.Kids.all (Ri a.Knots i k.Leaf):=by
     rw[show(λz:Int×Nat=>Ri a.Knots i k.Leaf z.1)=(Ri a.Knots i k.Leaf)∘Prod.fst from rfl,<-List.all_map];simp
    rw[Aa,hz]
    cases k.Kids.all (Ri a.Knots i k.Leaf)with
    |true=>simp only[Ai,Cq];rw[ad1]
    |false=>rfl
   have e1:(ln k.Kids !=4)=true:=by simp[ln];omega
   grind)
  (by simp only[Eb,Du])
 rw[h];unfold CK
 grind
theorem NB (a:Arena) (ha:a.Knots.length<=1048576) (r:Int):HL a r=some (Dy a.Knots r):=by
 unfold HL Dy
 cases hr:(r== -1)with
 |true=>rfl
 |false=>
  rw[Bk,Co,Di];by_cases h:0<=r/\r<(a.Knots.length:Int)
  ·rw[Ac h,Ac (by omega:0<=r/\r<=(a.Knots.length:Int)-1)];rw[Ia h.1 h.2];rfl
  grind
theorem BZ (h:Dy K r=true):r= -1\/(0<=r/\r<(K.length:Int)/\(B8 K r).Leaf=false):=by
 unfold Dy at h
 grind
theorem FE (hK:CK K=true) (h0:0<=r) (h1:r<(K.length:Int)):(B8 K r).Kids.length=4/\∀j,j<4->(B8 K r).Kids[j]?=some (MX (B8 K r) j)/\Ri K r.toNat (B8 K r).Leaf (MX (B8 K r) j)=true:=by
 have:=GI.1 hK r.toNat (by omega);rw[show((r.toNat:Nat):Int)=r by omega]at this;refine⟨this.1,λj hj=>?_⟩;have e:(B8 K r).Kids[j]?=some (MX (B8 K r) j):=by unfold MX;grind
 grind
theorem Gy (hK:CK K=true) (h0:0<=r) (h1:r<(K.length:Int)) (hl:(B8 K r).Leaf=false) (hj:j<4):MX (B8 K r) j= -1\/(0<=MX (B8 K r) j/\MX (B8 K r) j<r/\(B8 K (MX (B8 K r) j)).Leaf=true):=by
 have:=((FE hK h0 h1).2 j hj).2;rw[hl]at this;simp only[Ri,Ad,CS,CL,Ag,A5]at this
 grind
theorem ABX (hK:CK K=true) (h0:0<=r) (h1:r<(K.length:Int)) (hl:(B8 K r).Leaf=true) (hj:j<4):0<=MX (B8 K r) j:=by
 have:=((FE hK h0 h1).2 j hj).2;rw[hl]at this;simpa[Ri]using this
theorem qu4 {s:Nat} (h:s<16):qu (s:Int) 4=((s/4:Nat):Int):=by
 unfold qu;rw[show Int.tdiv (s:Int) 4=((s/4:Nat):Int) by rfl];exact OO (by omega)<|by omega
theorem AAR {s:Nat}:Int.tmod (s:Int) 4=((s %4:Nat):Int):=by rfl
theorem Yk {s:Nat} (a:Arena) (hK:CK a.Knots=true) (hr:Dy a.Knots r=true) (hs:s<16):Oz a r (s:Int)=some (Se a.Knots r s):=by
 unfold Oz Se
 rcases BZ hr with rfl|⟨h0,h1,hl⟩
 ·rfl
 rw[Af (by omega:¬r<0),AM (by omega),Ad,Ia h0 h1];rw[Aa,qu4 hs,Au,((FE hK h0 h1).2 (s/4)<|by omega).1];simp only[Aa]
 rcases Gy hK h0 h1 hl (show s/4<4 by omega)with e|⟨e1,e2,e3⟩
 ·rw[e];rfl
 rw[Af (by omega),AM (by omega),Ad,Ia e1<|by omega];rw[Aa,AAR,Au,((FE hK e1<|by omega).2 (s %4)<|by omega).1];rfl
theorem aO {s:Nat} (a:Arena) (ha:a.Knots.length<=1048576) (hK:CK a.Knots=true) (hr:Dy a.Knots r=true) (hs:s<16):QO a r (s:Int)=some (Se a.Knots r s):=by
 unfold QO;rw[KR a ha,NB a ha,Di,hK,hr];simp only[Aa,Al,Ad];rw[Ac (by omega:0<=(s:Int)/\(s:Int)<=15)];rw[Yk a hK hr hs]
 try rfl
theorem O3 (a:Arena) (ha:a.Knots.length<=1048576) (hK:CK a.Knots=true) (hr:Dy a.Knots r=true):JR a r=some (EG a.Knots r):=by
 unfold JR;obtain⟨b,h1,h2⟩:=AJ (body:=λs:List Int×Int=>LX a r s.1 s.2) (λ(o:List Int) i=>(o,i)) 16 (λi o=>o=(List.range i).map (Se a.Knots r)) (λb=>b=EG a.Knots r)
  (λo i hi ho=>by
   refine .inl ⟨_,?_,rfl⟩;simp only[LX]
   rw[cT,aO a ha hK hr hi,Aa,Bl (by rw[ho];simp;omega),Aa,ad1,ho,Ek,Cp,List.map_singleton])
  (λo ho=>⟨_,by rfl,ho⟩) (s:=[]) rfl
 rw[h1,h2];rfl
theorem Mn {by_:Nat} (h:l.length*by_<=140737488355328):ap by_ [] l=some l:=by
 rw[Bl (by simpa using h),A3]
def ACq (K:Ks):Prop:=K.length<=1048576/\∀k∈K,k.Kids.length<=1048576
theorem Lr (hK:CK K=true) (h:K.length<=1048576):ACq K:=by
 refine⟨h,λk hk=>?_⟩;obtain⟨i,hi,rfl⟩:=A4 hk;have:=(GI.1 hK i hi).1;rw[OB hi]at this;omega
theorem Wg (a:Arena) (h:ACq a.Knots):NV a=some a:=by
 unfold NV;have h1:=SO (body:=λs:Int×List Br=>KF a s.1 s.2) a.Knots (λk=>k)
  (λi k b hk ho=>by
   have hi:=(Ae.1 hk).1;have hm:=h.2 k<|Ar hk;have:=h.1;simp only[KF,DF hi,Au,hk,Aa]
   rw[Mn (by omega),Aa,Bl (by simp;omega),Aa,ad1])
  (λb=>by simp only[KF,Du])
 rw[h1];simp
theorem Gt (s:Store) (h:ACq s.Arena.Knots) (hv:s.Vols.length<=1048576):Ee s=some s:=by
 unfold Ee;rw[Mn (by omega),Wg _ h];rfl
def Qh (K:Ks) (r:Int) (s:Nat) (n:Int):List Int:=(if r<0 then [0,0,0,0]else if MX (B8 K r) (s/4)<0 then [0,0,0,0]else(B8 K<|MX (B8 K r)<|s/4).Kids).set (s %4) n
def UX (K:Ks) (r:Int) (s:Nat):List Int:=(if r<0 then [-1,-1,-1,-1]else(B8 K r).Kids).set (s/4) (K.length:Int)
def Ka (K:Ks) (r:Int) (s:Nat) (n:Int):Ks:=K++ [Br.mk true<|Qh K r s n,Br.mk false<|UX K r s]
theorem mk4:mk 8 (0:Int) 4=some [0,0,0,0]:=by rfl
theorem rD {k:Br} (h:j<k.Kids.length):gi k.Kids (j:Int)=some (MX k j):=by
 unfold MX;rw[Au,Ab h];rfl
theorem aK {s:Nat} (a:Arena) (ha:a.Knots.length<=1048000) (hK:CK a.Knots=true) (hr:Dy a.Knots r=true) (hs:s<16) (hn:0<=n):
  Zr a r (s:Int) n=some (Arena.mk (Ka a.Knots r s n),(a.Knots.length:Int)+1):=by
 unfold Zr;rw[Wg _ (Lr hK<|by omega),KR a (by omega),NB a (by omega),Di,hK,hr];rw[Ac (by omega:0<=(s:Int)/\(s:Int)<=15),Af (by omega:¬n<0)];rw[mk4];simp only[Aa];have fin:∀(lf tp:List Int),lf.length=4->tp.length=4->Ka a.Knots r s n=a.Knots++ [Br.mk true<|lf.set (s %4) n,Br.mk false<|tp.set (s/4) (a.Knots.length:Int)]->
   ((gi lf<|Int.tmod (s:Int) 4).bind λx4=>(gi tp<|qu (s:Int) 4).bind λx5=>(ap 32 a.Knots [Br.mk true<|si lf (Int.tmod (s:Int) 4) n,Br.mk false<|si tp (qu (s:Int) 4)<|ln a.Knots]).bind λq4=>some (Arena.mk q4,sb (ln q4) 1))=some (Arena.mk<|Ka a.Knots r s n,(a.Knots.length:Int)+1):=by
  intro lf tp h1 h2 h3;rw[qu4 hs,AAR,Au,Au,Ab (by omega),Ab<|by omega];rw[Bl (by simp;omega),DJ,DJ,Bk,<-h3];simp only[Aa];rw[Bk,h3,Ak,Co (by simp;omega) (by simp;omega)]
  grind
 rcases BZ hr with rfl|⟨h0,h1,hl⟩
 ·rw[Af (by omega:¬(-1:Int)>=0)];exact fin _ _ rfl rfl rfl
 rw[cT,Ia h0 h1];have h4:=(FE hK h0 h1).1;simp only[Aa];rw[Mn<|by omega];simp only[Aa];rw[qu4 hs,rD (by omega:s/4<(B8 a.Knots r).Kids.length)];simp only[Aa];rw[<-qu4 hs]
 rcases Gy hK h0 h1 hl (show s/4<4 by omega)with e|⟨e1,e2,e3⟩
 ·rw[Af (by omega:¬MX (B8 a.Knots r) (s/4)>=0)];exact fin _ _ rfl h4 (by unfold Ka Qh UX;simp only[AM (show¬r<0 by omega),AG<|show MX (B8 a.Knots r) (s/4)<0 by omega])
 rw[cT,Ia e1<|by omega];have h5:=(FE hK e1<|by omega).1;simp only[Aa];rw[Mn<|by omega];exact fin _ _ h5 h4 (by unfold Ka Qh UX;grind)
def OP (K:Ks) (r:Int) (i:Nat):Bool:=decide (0<=r)&&(decide (r=(i:Int))||(B8 K r).Kids.any λn=>decide<|n=(i:Int))
theorem mI (n:Nat) (f:Nat->α) (g:Nat->α->α):((List.range n).map f).mapIdx g=(List.range n).map λi=>g i (f i):=by
 apply BO
 grind
theorem Qa (n:Nat) (f:Nat->α) (i:Nat) (x:α) (g:Nat->α) (h:∀j,j<n->g j=if j=i then x else f j):((List.range n).map f).set i x=(List.range n).map g:=by
 apply BO
 grind
theorem HN {n:Nat} {f:Nat->α} (h:i<n):((List.range n).map f)[i]?=some (f i):=by grind
theorem VS {l:List Int} {m:Nat} (h:l[m]?=some x) (p:Int->Bool):(l.take (m+1)).any p=((l.take m).any p||p x):=by
 rw[DP,h,List.any_append];simp
theorem pB (a:Arena) (ha:a.Knots.length<=1048576) (hK:CK a.Knots=true) (hr:Dy a.Knots r=true):Wf a r=some ((List.range a.Knots.length).map (OP a.Knots r)):=by
 unfold Wf;rw[Bk,bK (by omega)<|by omega];simp only[Aa]
 rcases BZ hr with rfl|⟨h0,h1,hl⟩
 ·simp only[show decide ((-1:Int)<0)=true from rfl,Ai];congr 1;rw[show(OP a.Knots<|-1)=λ_=>false from rfl,N2,DQ]
 rw[cF];obtain⟨m,rfl⟩:∃m:Nat,r=(m:Int):=⟨r.toNat,by omega⟩;rw[Au,List.getElem?_replicate,AG<|by omega];rw[DJ];obtain⟨h4,hk⟩:=FE hK h0 h1;obtain⟨b,q1,q2⟩:=AJ (body:=λs:List Bool×Int=>MF a (m:Int) s.1 s.2) (λ(o:List Bool) i=>(o,i)) 4
  (λi o=>o=(List.range a.Knots.length).map λ(j:Nat)=>decide ((m:Int)=(j:Int))||((B8 a.Knots (m:Int)).Kids.take i).any λn=>decide<|n=(j:Int))
  (λb=>b=(List.range a.Knots.length).map (OP a.Knots (m:Int)))
  (λo i hi ho=>by
   obtain⟨e,_⟩:=hk i hi;simp only[MF];rw[cT,Ia h0 h1];simp only[Aa];rw[Au,e];simp only[Aa]
   rcases Gy hK h0 h1 hl hi with e1|⟨e1,e2,e3⟩
   ·rw[e1,cF,ad1];refine .inl ⟨o,rfl,?_⟩;rw[ho];apply CQ;intro j hj;rw[VS e,e1,Af (by omega:¬(-1:Int)=(j:Int)),Bool.or_false]
   obtain⟨c,hc⟩:∃c:Nat,MX (B8 a.Knots (m:Int)) i=(c:Int):=⟨(MX (B8 a.Knots (m:Int)) i).toNat,by omega⟩;rw[hc,cT];rw[ho,Au,HN<|by omega];rw[DJ,ad1];refine .inl ⟨_,rfl,?_⟩;apply Qa;intro j hj;rw[VS e,hc]
   grind)
  (λo ho=>⟨_,by simp only[MF];rw[cF],by
   rw[ho];apply CQ;intro j hj;rw[AI<|by omega]
   rfl⟩) (s:=(List.replicate a.Knots.length false).set m true) (by
   rw[<-DQ (n:=a.Knots.length),<-N2,DQ];apply Qa
   grind)
 rw[q1,q2];rfl
def CB (K:Ks) (R:List Int) (i:Nat):Bool:=R.any λr=>OP K r i
def e9 (K:Ks) (R:List Int) (i:Nat):Nat:=((List.range i).filter<|CB K R).length
def PN (K:Ks) (R:List Int) (n:Int):Int:=if 0<=n then(e9 K R n.toNat:Int)else n
def Zn (K:Ks) (R:List Int) (i:Nat):Br:=Br.mk (B8 K (i:Int)).Leaf<|bif(B8 K (i:Int)).Leaf then(B8 K (i:Int)).Kids else(B8 K (i:Int)).Kids.map<|PN K R
def VB (K:Ks) (R:List Int):Ks:=((List.range K.length).filter<|CB K R).map<|Zn K R
theorem Jb (l:List α) (f:α->α):l.mapIdx (λ_ x=>f x)=l.map f:=by
 apply BO
 grind
theorem PR (hr:r∈R) (h0:0<=r):CB K R r.toNat=true:=by
 unfold CB;rw[Dq];exact⟨r,hr,by unfold OP;rw[Ac h0,Ac (by omega:r=(r.toNat:Int))];rfl⟩
theorem ZM (hK:CK K=true) (hR:∀r∈R,Dy K r=true) (hu:CB K R i=true) (hl:(B8 K (i:Int)).Leaf=false):(i:Int)∈R:=by
 unfold CB at hu;rw[Dq]at hu;obtain⟨r,hr,h⟩:=hu;unfold OP at h;simp only[Ag,CS,A5,Dq]at h;obtain⟨h0,h⟩:=h
 rcases h with h|⟨n,hn,h⟩
 ·rw[<-h];exact hr
 rcases BZ (hR r hr)with e|⟨_,h1,a⟩
 ·omega
 obtain⟨h4,hk⟩:=FE hK h0 h1;obtain⟨j,hj,b⟩:=A4 hn;have e:=(hk j<|by omega).1;rw[Ab hj,b]at e
 injection e with e
 rcases Gy hK h0 h1 a (show j<4 by omega)with k1|⟨_,_,k3⟩
 ·omega
 grind
theorem VM (hr:r∈R) (h0:0<=r) (hn:n∈(B8 K r).Kids) (h1:0<=n):CB K R n.toNat=true:=by
 unfold CB;rw[Dq];refine⟨r,hr,?_⟩;unfold OP
 grind
theorem AEj (i:Nat):e9 K R i<=i:=by
 have:=BH (CB K R)<|List.range i;rw[DQ]at this;exact this
theorem eP (a:Arena) (ha:a.Knots.length<=1048576) (R:List Int) (hc:R.length<=1048576) (hR:∀r∈R,Dy a.Knots r=true):An (λs:Bool×Int=>FY a R s.1 s.2) (true,0)=some true:=by
 obtain⟨b,h1,h2⟩:=AJ (body:=λs:Bool×Int=>FY a R s.1 s.2) (λ(o:Bool) i=>(o,i)) R.length (λ_ o=>o=true) (λb=>b=true)
  (λo i hi ho=>by
   have hx:=Ab hi;simp only[FY,I7,Ac hi,Ai,Aa,ho,Au,hx];rw[NB a ha,hR _<|Ax hi,Aa,ad1]
   grind)
  (λo ho=>⟨o,by simp only[FY,I7,ER,HW,Ad,Aa],ho⟩) (s:=true) rfl
 grind
theorem lA (a:Arena) (ha:a.Knots.length<=1048576) (hK:CK a.Knots=true) (R:List Int) (hc:R.length<=1048576) (hR:∀r∈R,Dy a.Knots r=true):
  An (λs:List Bool×Int=>FX a R s.1 s.2) (List.replicate a.Knots.length false,0)=some ((List.range a.Knots.length).map (CB a.Knots R)):=by
 obtain⟨b,h1,h2⟩:=AJ (body:=λs:List Bool×Int=>FX a R s.1 s.2) (λ(o:List Bool) i=>(o,i)) R.length (λi o=>o=(List.range a.Knots.length).map λ(j:Nat)=>(R.take i).any λr=>OP a.Knots r j) (λb=>b=(List.range a.Knots.length).map (CB a.Knots R))
  (λo i hi ho=>by
   have hx:=Ab hi;simp only[FX,DF hi,Aa,Au,hx];rw[pB a ha hK<|hR _<|Ax hi];simp only[Aa];have q:=OA (body:=λs:List Bool×Int=>HA ((List.range a.Knots.length).map<|OP a.Knots R[i]) s.1 s.2) (λl i=>(l,i)) (λk x=>x||OP a.Knots R[i] k) o
    (λk l x hl c d=>by
     have hk:k<a.Knots.length:=by grind
     simp only[HA,I7];rw[Ac (by simpa using hk),Ai,Au,c];simp only[Aa]
     cases x with
     |true=>simp only[Ai,Bool.true_or];rw[DJ,ad1]
     |false=>
      simp only[Ad,oL]
      rw[Au,HN hk,Aa,DJ,ad1])
    (λl hl=>by simp only[HA,I7];grind)
   rw[q,Aa,ad1,ho,mI];refine .inl ⟨_,rfl,?_⟩;apply CQ;intro j hj;rw[DP,hx,List.any_append]
   simp)
  (λo ho=>⟨o,by simp only[FX,Du],by rw[ho,AI<|by omega];rfl⟩) (s:=List.replicate a.Knots.length false) (by
   simp only[L0,List.any_nil]
   rw[N2,DQ])
 rw[<-h2];exact h1
def Vp (K:Ks) (R:List Int) (i:Nat):List Int:=(List.range K.length).map λ(j:Nat)=>if j<i/\CB K R j=true then(e9 K R j:Int)else 0
theorem eQ (a:Arena) (ha:a.Knots.length<=1048576) (hK:CK a.Knots=true) (R:List Int) (hR:∀r∈R,Dy a.Knots r=true):
  An (λs:List Int×Int×List Br=>FW a ((List.range a.Knots.length).map (CB a.Knots R)) s.1 s.2.1 s.2.2) (List.replicate a.Knots.length 0,0,[])=some (Vp a.Knots R a.Knots.length,VB a.Knots R):=by
 obtain⟨b,h1,h2⟩:=AJ (body:=λs:List Int×Int×List Br=>FW a ((List.range a.Knots.length).map<|CB a.Knots R) s.1 s.2.1 s.2.2) (λ(o:List Int×List Br) i=>(o.1,i,o.2)) a.Knots.length
  (λi o=>o=(Vp a.Knots R i,((List.range i).filter<|CB a.Knots R).map<|Zn a.Knots R)) (λb=>b=(Vp a.Knots R a.Knots.length,VB a.Knots R))
  (λo i hi ho=>by
   subst ho;simp only[FW,DF hi];rw[Au,HN hi];simp only[Aa]
   cases hu:CB a.Knots R i with
   |false=>
    simp only[Cm,Ai];rw[ad1];refine .inl ⟨(Vp a.Knots R i,((List.range i).filter<|CB a.Knots R).map<|Zn a.Knots R),rfl,?_⟩;congr 1
    ·unfold Vp
     grind
    rw[Ek,AS,Ey (by rw[hu];simp)];simp
   |true=>
    simp only[Al,Ad];have h0:(0:Int)<=(i:Int):=by omega
    have d:(i:Int)<(a.Knots.length:Int):=by omega
    rw[Ia h0 d];obtain⟨h4,hk⟩:=FE hK h0 d;simp only[Aa];rw[Mn<|by omega];simp only[Aa];have inner:An (λs:Int×List Int=>FV (Vp a.Knots R i) ((B8 a.Knots (i:Int)).Leaf,(B8 a.Knots (i:Int)).Kids) s.1 s.2) (0,(B8 a.Knots (i:Int)).Kids)=some (Zn a.Knots R i).Kids:=by
     unfold Zn
     cases hl:(B8 a.Knots (i:Int)).Leaf with
     |true=>rw[Aw];rfl
     |false=>
      have q:=OA (body:=λs:Int×List Int=>FV (Vp a.Knots R i) (false,(B8 a.Knots (i:Int)).Kids) s.1 s.2) (λl k=>(k,l)) (λ_ x=>PN a.Knots R x) (B8 a.Knots (i:Int)).Kids
       (λk l x h j m=>by
        have n:k<4:=by grind
        have ex:x=MX (B8 a.Knots (i:Int)) k:=by grind
        simp only[FV];rw[Ac (by omega:(k:Int)<4)];simp only[Ai,Aa,Cm];rw[Au,j];simp only[Aa]
        rcases Gy hK h0 d hl n with e|⟨e1,e2,e3⟩
        ·rw[cF,ad1];have:PN a.Knots R x=x:=by unfold PN;omega
         rw[this,show l.set k x=l from by
          apply BO
          grind]
        rw[cT];obtain⟨c,hc⟩:∃c:Nat,x=(c:Int):=⟨x.toNat,by omega⟩;have p:x∈(B8 a.Knots (i:Int)).Kids:=Ar m;have f:=VM (ZM hK hR hu hl) h0 p (by omega);rw[hc]at f;rw[hc,Au];unfold Vp;rw[HN (by omega),Aa,AG ⟨by omega,f⟩,DJ,ad1]
        rfl)
       (λl h=>by
        simp only[FV]
        grind)
      rw[Jb]at q;exact q
    rw[inner];simp only[Aa];have t:gi (Vp a.Knots R i) (i:Int)=some 0:=by
     unfold Vp;rw[Au,HN hi,AM<|by omega]
    rw[t];simp only[Aa];have u:=AEj (K:=a.Knots) (R:=R) i;have g:(((List.range i).filter<|CB a.Knots R).map<|Zn a.Knots R).length=e9 a.Knots R i:=by rw[B7];rfl
    rw[Bl (by rw[g];simp;omega),Aa,ad1,Bk,g,DJ];refine .inl ⟨(_,_),rfl,?_⟩;congr 1
    ·unfold Vp;apply Qa
     grind
    rw[Ek,AS,Ex hu,N3,Cp]
    rfl)
  (λo ho=>⟨o,by simp only[FW,Du],ho⟩) (s:=(List.replicate a.Knots.length 0,[])) (by
   unfold Vp;simp only[Nat.not_lt_zero,false_and,Kc];rw[N2,DQ]
   rfl)
 rw[<-h2];exact h1
theorem tQ (a:Arena) (ha:a.Knots.length<=1048576) (R:List Int) (hc:R.length<=1048576) (hR:∀r∈R,Dy a.Knots r=true):
  An (λs:List Int×Int=>FU (Vp a.Knots R a.Knots.length,VB a.Knots R) s.1 s.2) (R,0)=some (R.map (PN a.Knots R)):=by
 have q:=OA (body:=λs:List Int×Int=>FU (Vp a.Knots R a.Knots.length,VB a.Knots R) s.1 s.2) (λl k=>(l,k)) (λ_ x=>PN a.Knots R x) R
  (λk l x b d f=>by
   have i:=(Ae.1 d).1;simp only[FU,DF i,Au,d,Aa]
   rcases BZ (hR x<|Ar f)with e|⟨e1,e2,e3⟩
   ·rw[cF,ad1];have:PN a.Knots R x=x:=by unfold PN;omega
    rw[this,show l.set k x=l from by
     apply BO
     grind]
   rw[cT];obtain⟨c,g⟩:∃c:Nat,x=(c:Int):=⟨x.toNat,by omega⟩;have h:=PR (K:=a.Knots) (Ar f) e1;rw[g]at h;rw[g,Au];unfold Vp;rw[HN (by omega),Aa,AG ⟨by omega,h⟩,DJ,ad1]
   rfl)
  (λl b=>by simp only[FU,Bk,b];rw[cF])
 rw[Jb]at q;exact q
theorem aI (a:Arena) (ha:a.Knots.length<=1048576) (hK:CK a.Knots=true) (R:List Int) (hc:R.length<=1048576) (hR:∀r∈R,Dy a.Knots r=true):
  KH a R=some (Arena.mk (VB a.Knots R),R.map (PN a.Knots R)):=by
 unfold KH;rw[Mn (by omega),KR a ha,hK];simp only[Aa];rw[eP a ha R hc hR];rw[Bk,bK (by omega)<|by omega];simp only[Aa];rw[lA a ha hK R hc hR];rw[bK (by omega)<|by omega];simp only[Aa];rw[eQ a ha hK R hR];simp only[Aa];rw[tQ a ha R hc hR];rfl
theorem cS (p:Nat->Bool) (hp:p i=true):∀{n:Nat},i<n->((List.range n).filter p)[((List.range i).filter p).length]?=some i
 |0,h=>by omega
 |n+1,h=>by
  rw[Ek,AS];by_cases e:i=n
  ·grind
  have h2:=cS p hp<|show i<n by omega
  grind
theorem rI {n:Nat} (p:Nat->Bool) (hp:p i=true) (h:i<n):((List.range i).filter p).length<((List.range n).filter p).length:=(Ae.1<|cS p hp h).1
theorem rH (p:Nat->Bool):∀{n j:Nat},j<((List.range n).filter p).length->∃i,i<n/\p i=true/\((List.range i).filter p).length=j
 |0,j,h=>by simp at h
 |n+1,j,h=>by
  rw[Ek,AS,Ak]at h;by_cases e:j<((List.range n).filter p).length
  ·obtain⟨i,h1,h2,h3⟩:=rH p e
   grind
  grind
theorem kK:(VB K R).length=e9 K R K.length:=by unfold VB e9;rw[B7]
theorem T5 (hu:CB K R i=true) (hi:i<K.length):B8 (VB K R) (e9 K R i:Nat)=Zn K R i/\e9 K R i<(VB K R).length:=by
 have h:=rI (CB K R) hu hi;have h2:e9 K R i<(VB K R).length:=by rw[kK];exact h
 refine⟨?_,h2⟩;unfold B8;rw[Au];unfold VB;rw[BY];have:=cS (CB K R) hu hi;rw[show e9 K R i=((List.range i).filter<|CB K R).length from rfl,this];rfl
theorem AAU (hj:j<(VB K R).length):∃i,i<K.length/\CB K R i=true/\e9 K R i=j:=by
 rw[kK]at hj;exact rH (CB K R) hj
theorem AFG (hu:CB K R i=true) (h:i<j):e9 K R i<e9 K R j:=rI _ hu h
theorem ZU (i:Nat):(Zn K R i).Leaf=(B8 K (i:Int)).Leaf:=rfl
theorem wM (hK:CK K=true) (hi:i<K.length):(Zn K R i).Kids.length=4:=by
 have:=(GI.1 hK i hi).1;unfold Zn
 grind
theorem wN (hl:(B8 K (i:Int)).Leaf=false) (hj:j<(B8 K (i:Int)).Kids.length):MX (Zn K R i) j=PN K R (MX (B8 K (i:Int)) j):=by
 unfold MX Zn
 grind
theorem UE (hl:(B8 K (i:Int)).Leaf=true):(Zn K R i).Kids=(B8 K (i:Int)).Kids:=by
 unfold Zn;rw[hl];rfl
theorem Zs (h:n<0):PN K R n=n:=by unfold PN;omega
theorem TL (n:Nat):PN K R (n:Int)=(e9 K R n:Int):=by rfl
theorem AEI (hK:CK K=true) (hR:∀r∈R,Dy K r=true):CK (VB K R)=true:=by
 rw[GI];intro j hj;obtain⟨i,hi,hu,rfl⟩:=AAU hj;rw[(T5 hu hi).1];refine⟨wM hK hi,λn hn=>?_⟩;have h0:(0:Int)<=(i:Int):=by omega
 have h1:(i:Int)<(K.length:Int):=by omega
 obtain⟨h4,hk⟩:=FE hK h0 h1;rw[ZU]
 cases hl:(B8 K (i:Int)).Leaf with
 |true=>
  rw[UE hl]at hn;have:=(GI.1 hK i hi).2 n hn;rw[hl]at this;simpa[Ri]using this
 |false=>
  obtain⟨m,hm,b⟩:=A4 hn;rw[wM hK hi]at hm;have e:n=PN K R (MX (B8 K (i:Int)) m):=by
   rw[<-wN hl (by omega),<-b];unfold MX
   grind
  rcases Gy hK h0 h1 hl hm with k1|⟨k1,k2,k3⟩
  ·rw[k1,Zs<|by omega]at e;subst e;rfl
  obtain⟨c,hc⟩:∃c:Nat,MX (B8 K (i:Int)) m=(c:Int):=⟨_,(AT k1).symm⟩;rw[hc]at e k2 k3;rw[TL]at e;have a:=VM (ZM hK hR hu hl) h0 (Ar (hk m hm).1) (by omega);rw[hc]at a;have d:c<K.length:=by omega
  have f:e9 K R c<e9 K R i:=AFG (by simpa using a) (by omega);subst e;simp only[Ri,Ad,CS,CL,Ag,A5];refine .inr ⟨by omega,?_⟩;rw[(T5 (by simpa using a) d).1,ZU];exact k3
theorem ABi (hR:∀r∈R,Dy K r=true) (hr:r∈R):Dy (VB K R) (PN K R r)=true:=by
 rcases BZ (hR r hr)with e|⟨h0,h1,hl⟩
 ·rw[e,Zs<|by omega];rfl
 obtain⟨c,rfl⟩:∃c:Nat,r=(c:Int):=⟨_,(AT h0).symm⟩;have a:=PR (K:=K) hr h0;rw[Ba]at a;obtain⟨g1,g2⟩:=T5 a (by omega);rw[TL];unfold Dy;rw[Ac (by omega),g1,ZU,hl];simp
theorem wZ (hK:CK K=true) (hR:∀r∈R,Dy K r=true) (hr:r∈R):EG (VB K R) (PN K R r)=EG K r:=by
 unfold EG;apply CQ;intro s hs;rw[L3]at hs;unfold Se
 rcases BZ (hR r hr)with e|⟨h0,h1,hl⟩
 ·rw[e,Zs (by omega),AG (by omega),AG<|by omega]
 obtain⟨c,rfl⟩:∃c:Nat,r=(c:Int):=⟨_,(AT h0).symm⟩;have a:=PR (K:=K) hr h0;rw[Ba]at a;obtain⟨g1,g2⟩:=T5 a (by omega);obtain⟨h4,hk⟩:=FE hK h0 h1;rw[TL,g1,wN hl<|by omega];simp only[AM (show¬((e9 K R c:Nat):Int)<0 by omega),AM<|show¬((c:Nat):Int)<0 by omega]
 rcases Gy hK h0 h1 hl (show s/4<4 by omega)with k1|⟨k1,k2,k3⟩
 ·rw[k1,Zs<|by omega];rfl
 obtain⟨d,hd⟩:∃d:Nat,MX (B8 K (c:Int)) (s/4)=(d:Int):=⟨_,(AT k1).symm⟩;have b:=VM hr h0 (Ar (hk (s/4)<|by omega).1) k1;rw[hd]at b k2 k3;rw[hd,TL];simp only[AM (show¬((e9 K R d:Nat):Int)<0 by omega),AM<|show¬((d:Nat):Int)<0 by omega];rw[(T5 (by simpa using b)<|by omega).1];unfold MX;rw[UE k3]
theorem AC1 (hK:CK K=true) (hR:∀r∈R,Dy K r=true) (hj:j<(VB K R).length):CB (VB K R) (R.map (PN K R)) j=true:=by
 obtain⟨i,hi,hu,rfl⟩:=AAU hj;have hu':=hu;unfold CB at hu';rw[Dq]at hu';obtain⟨r,hr,h⟩:=hu';unfold OP at h;simp only[Ag,CS,A5,Dq]at h;obtain⟨h0,h⟩:=h;unfold CB;rw[Dq];refine⟨PN K R r,A6.2 ⟨r,hr,rfl⟩,?_⟩;obtain⟨c,rfl⟩:∃c:Nat,r=(c:Int):=⟨_,(AT h0).symm⟩;rw[TL];unfold OP;simp only[Ag,CS,A5,Dq];refine⟨by omega,?_⟩
 rcases h with h|⟨n,hn,h⟩
 ·grind
 right
 rcases BZ (hR _ hr)with e|⟨_,h1,hl⟩
 ·omega
 have a:=PR (K:=K) hr h0;rw[Ba]at a;rw[(T5 a<|by omega).1];refine⟨(e9 K R i:Int),?_,rfl⟩;unfold Zn;rw[hl];simp only[Ad,A6];exact⟨n,hn,by rw[h,TL]⟩
theorem OC {i:Int} (h0:0<=i) (h:i<(K.length:Int)):B8 (K++X) i=B8 K i:=by
 obtain⟨c,rfl⟩:∃c:Nat,i=(c:Int):=⟨_,(AT h0).symm⟩;unfold B8;rw[Au,Au,Ck<|by omega]
theorem ABf (h:Dy K r=true):Dy (K++X) r=true:=by
 rcases BZ h with e|⟨h0,h1,hl⟩
 ·rw[e];rfl
 unfold Dy;rw[OC h0 h1,hl,Ac<|by grind];simp
theorem wV (hK:CK K=true) (h:Dy K r=true):EG (K++X) r=EG K r:=by
 unfold EG;apply CQ;intro s hs;rw[L3]at hs;unfold Se
 rcases BZ h with e|⟨h0,h1,hl⟩
 ·rw[e];rfl
 rw[OC h0 h1]
 rcases Gy hK h0 h1 hl (show s/4<4 by omega)with k1|⟨k1,k2,k3⟩
 ·rw[k1];rfl
 rw[OC k1<|by omega]
theorem i9 {s:Nat} (hK:CK K=true) (hr:Dy K r=true) (hs:s<16) (n:Int):(Qh K r s n).length=4:=by
 unfold Qh;rw[Kh]
 rcases BZ hr with e|⟨h0,h1,hl⟩
 ·grind
 rw[AM<|by omega]
 rcases Gy hK h0 h1 hl (show s/4<4 by omega)with k1|⟨k1,k2,k3⟩
 ·grind
 rw[AM<|by omega];exact(FE hK k1<|by omega).1
theorem oR (hK:CK K=true) (hr:Dy K r=true) (s:Nat):(UX K r s).length=4:=by
 unfold UX;rw[Kh]
 rcases BZ hr with e|⟨h0,h1,hl⟩
 ·grind
 rw[AM<|by omega];exact(FE hK h0 h1).1
theorem XA {s:Nat}:B8 (Ka K r s n) (K.length:Int)=Br.mk true (Qh K r s n):=by
 unfold B8 Ka;rw[Au,B6<|Az _,Nat.sub_self];rfl
theorem X9 {s:Nat}:B8 (Ka K r s n) ((K.length:Int)+1)=Br.mk false (UX K r s):=by
 unfold B8 Ka;rw[show(K.length:Int)+1=((K.length+1:Nat):Int)from rfl,Au,B6 (by omega),show K.length+1-K.length=1 by omega];rfl
theorem AER {s:Nat} (hK:CK K=true) (hr:Dy K r=true) (hs:s<16) (hn:0<=n):CK (Ka K r s n)=true:=by
 rw[GI];intro j hj;have a:(Ka K r s n).length=K.length+2:=by unfold Ka;simp
 rw[a]at hj;by_cases h:j<K.length
 ·have hk:B8 (Ka K r s n) (j:Int)=B8 K (j:Int):=OC (by omega) (by omega);rw[hk];obtain⟨h4,h5⟩:=GI.1 hK j h;refine⟨h4,λm hm=>?_⟩;have:=h5 m hm
  cases hl:(B8 K (j:Int)).Leaf with
  |true=>rw[hl]at this;exact this
  |false=>
   rw[hl]at this;simp only[Ri,Ad,CS,CL,Ag,A5]at this⊢
   rcases this with e|⟨e1,e2⟩
   ·exact .inl e
   refine .inr ⟨e1,?_⟩;rw[show B8 (Ka K r s n) m=B8 K m from OC e1.1<|by omega];exact e2
 by_cases e:j=K.length
 ·subst e;rw[XA];refine⟨i9 hK hr hs n,λm hm=>?_⟩;simp only[Ri,Ai,A5]
  rcases CG hm with hm|hm
  ·rcases BZ hr with e|⟨h0,h1,hl⟩
   ·grind
   rw[AM<|by omega]at hm
   rcases Gy hK h0 h1 hl (show s/4<4 by omega)with k1|⟨k1,k2,k3⟩
   ·grind
   rw[AM<|by omega]at hm;have hq:=GI.1 hK (MX (B8 K r)<|s/4).toNat (by omega);rw[AT k1,k3]at hq;have:=hq.2 m hm;simpa[Ri]using this
  omega
 have:j=K.length+1:=by omega
 subst this;rw[show((K.length+1:Nat):Int)=(K.length:Int)+1 from rfl,X9];refine⟨oR hK hr s,λm hm=>?_⟩;simp only[Ri,Ad,CS,CL,Ag,A5]
 rcases CG hm with hm|hm
 ·rcases BZ hr with e|⟨h0,h1,hl⟩
  ·grind
  rw[AM<|by omega]at hm;obtain⟨q,hq,rfl⟩:=A4 hm;obtain⟨h4,hk⟩:=FE hK h0 h1;have e5:=(hk q<|by omega).1;rw[Ab hq]at e5
  injection e5 with e5
  rw[e5]
  rcases Gy hK h0 h1 hl (show q<4 by omega)with k1|⟨k1,k2,k3⟩
  ·exact .inl k1
  refine .inr ⟨by omega,?_⟩;rw[show B8 (Ka K r s n) (MX (B8 K r) q)=B8 K (MX (B8 K r) q)from OC k1 (by omega)];exact k3
 refine .inr ⟨by omega,?_⟩;rw[hm,XA]
theorem zP {s:Nat}:Dy (Ka K r s n) ((K.length:Int)+1)=true:=by
 unfold Dy;rw[X9,Ac (by unfold Ka;simp;omega)];simp
theorem xK {s:Nat} (hK:CK K=true) (hr:Dy K r=true) (hs:s<16):EG (Ka K r s n) ((K.length:Int)+1)=(EG K r).set s n:=by
 unfold EG;symm;apply Qa;intro t ht;unfold Se;rw[X9];simp only[AM<|show¬((K.length:Int)+1)<0 by omega];have a:=oR hK hr s;have b:=i9 hK hr hs n;by_cases hq:t/4=s/4
 ·have e1:MX (Br.mk false<|UX K r s) (t/4)=(K.length:Int):=by
   unfold MX UX;unfold UX at a
   grind
  rw[e1,AM (by omega),XA];have e2:MX (Br.mk true<|Qh K r s n) (t %4)=if t %4=s %4 then n else(if r<0 then 0 else if MX (B8 K r) (s/4)<0 then 0 else MX (B8 K<|MX (B8 K r)<|s/4)<|t %4):=by
   unfold MX Qh;unfold Qh at b;rw[Gl];by_cases e:s %4=t %4
   ·grind
   by_cases c1:r<0
   ·grind
   unfold MX
   grind
  grind
 rw[AM<|show¬t=s by omega];have e1:MX (Br.mk false<|UX K r s) (t/4)=if r<0 then-1 else MX (B8 K r) (t/4):=by
  unfold MX UX;rw[Gl,AM<|JH hq];by_cases c1:r<0
  ·rw[AG c1,AG c1];have:t/4<4:=by omega
   generalize t/4=q at this
   match q,this with
   |0,_=>rfl
   |1,_=>rfl
   |2,_=>rfl
   |3,_=>rfl
  grind
 rw[e1]
 rcases BZ hr with e|⟨h0,h1,hl⟩
 ·rw[e];rfl
 simp only[AM<|show¬r<0 by omega]
 rcases Gy hK h0 h1 hl (show t/4<4 by omega)with k1|⟨k1,k2,k3⟩
 ·rw[k1];rfl
 rw[show B8 (Ka K r s n) (MX (B8 K r)<|t/4)=B8 K (MX (B8 K r)<|t/4)from OC k1 (by omega)]
def Nn (n:Nat) (p:Nat->Bool):Nat:=((List.range n).filter p).length
theorem Mi (n:Nat) (p:Nat->Bool):Nn (n+1) p=Nn n p+(if p n=true then 1 else 0):=by
 unfold Nn;rw[Ek,AS,Ak]
 grind
theorem Z9 (p q:Nat->Bool):∀n,Nn n (λj=>p j||q j)<=Nn n p+Nn n q
 |0=>by simp[Nn]
 |n+1=>by
  have:=Z9 p q n;rw[Mi,Mi,Mi]
  grind
theorem dA (x:Int):∀n,Nn n (λj=>decide (x=(j:Int)))<=1/\(x>=(n:Int)->Nn n (λj=>decide (x=(j:Int)))=0)
 |0=>by simp[Nn]
 |n+1=>by
  obtain⟨h1,h2⟩:=dA x n;rw[Mi]
  grind
theorem ACo (l:List Int) (n:Nat):Nn n (λj=>l.any λx=>decide (x=(j:Int)))<=l.length:=by
 induction l with
 |nil=>simp[Nn]
 |cons x l ih=>
  simp only[List.any_cons,AB];have:=Z9 (λj=>decide<|x=(j:Int)) (λj=>l.any λx=>decide<|x=(j:Int)) n;have:=(dA x n).1;omega
theorem ADO {n:Nat} {q:Nat->Bool} (h:∀j,j<n->p j=true->q j=true):Nn n p<=Nn n q:=by
 induction n with
 |zero=>simp[Nn]
 |succ n ih=>
  rw[Mi,Mi]
  grind
theorem rQ {n:Nat} (h:∀j,j<n->p j=true):Nn n p=n:=by
 induction n with
 |zero=>rfl
 |succ n ih=>rw[Mi,AG (h n<|by omega),ih λj hj=>h j<|by omega]
theorem ADH (hK:CK K=true) (hr:Dy K r=true) (n:Nat):Nn n (OP K r)<=5:=by
 have h1:=Z9 (λj=>decide<|r=(j:Int)) (λj=>(B8 K r).Kids.any λn=>decide<|n=(j:Int)) n;have h2:=(dA r n).1;have h3:=ACo (B8 K r).Kids n
 have h4:Nn n (OP K r)<=Nn n (λj=>decide (r=(j:Int))||(B8 K r).Kids.any λn=>decide<|n=(j:Int)):=ADO λj _ h=>by
  unfold OP at h
  grind
 rcases BZ hr with e|⟨h0,hl,_⟩
 ·have:Nn n (OP K r)=Nn n (λ_=>false):=by rw[e];rfl
  rw[this];unfold Nn;rw[Bp.2<|by simp];simp
 have:=(FE hK h0 hl).1;omega
theorem ZN (hK:CK K=true) (n:Nat):∀(R:List Int),(∀r∈R,Dy K r=true)->Nn n (CB K R)<=5*R.length
 |[],_=>by simp[Nn,CB]
 |r::R,h=>by
  have h1:=ZN hK n R (λx hx=>h x<|by simp[hx]);have h2:=ADH hK (h r<|by simp) n;have h3:=Z9 (OP K r) (CB K R) n;have h4:Nn n (CB K (r::R))=Nn n (λj=>OP K r j||CB K R j):=rfl
  grind
theorem zE (hK:CK K=true) (hR:∀r∈R,Dy K r=true):(VB K R).length<=5*R.length:=by
 rw[kK];exact ZN hK _ R hR
def Bs (s:Store):List Int:=s.Vols.map Vol.Root
structure StoreR (s:Store):Prop where
 len:s.Vols.length<=3
 ar:CK s.Arena.Knots=true
 nx:1<=s.Next/\s.Next<=1000000000
 ids:∀v∈s.Vols,1<=v.Id/\v.Id<=9
 asc:(s.Vols.map Vol.Id).Pairwise (·<·)
 root:∀r∈Bs s,Dy s.Arena.Knots r=true
 lt:∀r∈Bs s,∀x∈EG s.Arena.Knots r,x<s.Next
 few:s.Arena.Knots.length<=1000
structure C4 (s:Store):Prop extends StoreR s where
 used:∀i,i<s.Arena.Knots.length->CB s.Arena.Knots (Bs s) i=true
theorem C4.small (h:C4 s):s.Arena.Knots.length<=15:=by
 have h1:=ZN h.ar s.Arena.Knots.length (Bs s) h.root;rw[rQ h.used]at h1;have:(Bs s).length=s.Vols.length:=by unfold Bs;rw[B7]
 have:=h.len;omega
def AL (s:Store):List (Int×List Int):=s.Vols.map λv=>(v.Id,EG s.Arena.Knots v.Root)
def LB (s:Store):Store:=Store.mk (s.Vols.map λv=>Vol.mk v.Id<|PN s.Arena.Knots (Bs s) v.Root) (Arena.mk<|VB s.Arena.Knots<|Bs s) s.Next
theorem QW (s:Store):Bs (LB s)=(Bs s).map (PN s.Arena.Knots (Bs s)):=by
 unfold Bs LB;simp only[FI];rfl
theorem wL (h:StoreR s):C4 (LB s):=by
 have b:(Bs s).length=s.Vols.length:=by unfold Bs;rw[B7]
 refine⟨⟨by unfold LB;simpa using h.len,AEI h.ar h.root,h.nx,?_,?_,?_,?_,?_⟩,?_⟩
 ·intro v hv;unfold LB at hv;simp only[A6]at hv;obtain⟨w,hw,rfl⟩:=hv;exact h.ids w hw
 ·have:((LB s).Vols.map Vol.Id)=s.Vols.map Vol.Id:=by unfold LB;simp
  rw[this];exact h.asc
 ·intro r hr;rw[QW]at hr;obtain⟨q,hq,rfl⟩:=A6.1 hr;exact ABi h.root hq
 ·intro r hr;rw[QW]at hr;obtain⟨q,hq,rfl⟩:=A6.1 hr;have:=wZ h.ar h.root hq;intro x hx;have a:x∈EG s.Arena.Knots q:=by rw[<-this];exact hx
  exact h.lt q hq x a
 ·have:=zE h.ar h.root;have:=h.len;show(VB s.Arena.Knots<|Bs s).length<=1000;omega
 intro i hi;rw[QW];exact AC1 h.ar h.root hi
theorem gP (h:StoreR s):AL (LB s)=AL s:=by
 unfold AL;show(s.Vols.map λv=>Vol.mk v.Id<|PN s.Arena.Knots (Bs s) v.Root).map _=_;rw[FI];apply CQ;intro v hv;have:=wZ h.ar h.root<|show v.Root∈Bs s from A6.2 ⟨v,hv,rfl⟩;show(v.Id,EG (VB s.Arena.Knots<|Bs s)<|PN s.Arena.Knots (Bs s) v.Root)=_;rw[this]
theorem UF (s:Store) (hv:s.Vols.length<=1048576):Oy s=some (Bs s):=by
 unfold Oy;obtain⟨b,h1,h2⟩:=AJ (body:=λq:List Int×Int=>Jy s q.1 q.2) (λ(o:List Int) i=>(o,i)) s.Vols.length (λi o=>o=(s.Vols.take i).map Vol.Root) (λb=>b=Bs s)
  (λo i hi ho=>by
   have hx:=Ab hi;simp only[Jy,DF hi,Au,hx,Aa];rw[Bl (by rw[ho];simp;omega),Aa,ad1]
   exact .inl ⟨_,rfl,by rw[ho,DP,hx,Cp];rfl⟩)
  (λo ho=>⟨o,by simp only[Jy,Du],by rw[ho,AI<|Az _];rfl⟩) (s:=[]) rfl
 rw[h1,h2];rfl
theorem Jw (h:StoreR s):Hv s=some (LB s):=by
 have hl:=h.len;have hf:=h.few;have c:(Bs s).length=s.Vols.length:=by unfold Bs;rw[B7]
 unfold Hv;rw[UF s<|by omega];simp only[Aa];rw[aI _ (by omega) h.ar _ (by omega) h.root];rw[Mn<|by omega];simp only[Aa];have q:=OA (body:=λq:Int×List Vol=>Jx ((Bs s).map<|PN s.Arena.Knots<|Bs s,VB s.Arena.Knots<|Bs s) q.1 q.2) (λl i=>(i,l)) (λ_ v=>Vol.mk v.Id<|PN s.Arena.Knots (Bs s) v.Root) s.Vols
  (λi l x a b d=>by
   have hi:=(Ae.1 b).1;simp only[Jx,DF hi];have:gi ((Bs s).map<|PN s.Arena.Knots<|Bs s) (i:Int)=some (PN s.Arena.Knots (Bs s) x.Root):=by
    rw[Au,BY];unfold Bs
    grind
   rw[this,Au,b];simp only[Aa]
   rw[DJ,ad1])
  (λl a=>by simp only[Jx,Bk,a];rw[cF])
 rw[Jb]at q;rw[q];rfl
theorem ZS (h:C4 s):LB s=s:=by
 have d:∀i,i<=s.Arena.Knots.length->e9 s.Arena.Knots (Bs s) i=i:=λi hi=>rQ λj hj=>h.used j<|by omega
 have b:∀n:Int,n<(s.Arena.Knots.length:Int)->PN s.Arena.Knots (Bs s) n=n:=λn hn=>by
  unfold PN
  grind
 have a:∀r∈Bs s,PN s.Arena.Knots (Bs s) r=r:=λr hr=>by
  rcases BZ (h.root r hr)with e|⟨h0,h1,_⟩
  ·grind
  exact b r h1
 have c:VB s.Arena.Knots (Bs s)=s.Arena.Knots:=by
  unfold VB;rw[GK.2 λi hi=>h.used i<|by simpa using hi];apply BO;intro i;rw[BY];by_cases hi:i<s.Arena.Knots.length
  ·rw[List.getElem?_range hi,Ab hi];simp only[BD];congr 1;have h0:(0:Int)<=(i:Int):=by omega
   have h1:(i:Int)<(s.Arena.Knots.length:Int):=by omega
   unfold Zn
   cases hl:(B8 s.Arena.Knots (i:Int)).Leaf with
   |true=>
    simp only[Ai];rw[<-hl,OB hi]
   |false=>
    simp only[Ad];have:(B8 s.Arena.Knots (i:Int)).Kids.map (PN s.Arena.Knots<|Bs s)=(B8 s.Arena.Knots (i:Int)).Kids:=by
     conv=>rhs;rw[<-VD (B8 s.Arena.Knots (i:Int)).Kids]
     apply CQ;intro n hn;obtain⟨q,hq,rfl⟩:=A4 hn;obtain⟨h4,hk⟩:=FE h.ar h0 h1;have e5:=(hk q<|by omega).1;rw[Ab hq]at e5
     injection e5 with e5
     rw[e5]
     rcases Gy h.ar h0 h1 hl (show q<4 by omega)with k1|⟨k1,k2,k3⟩
     ·grind
     grind
    rw[this,<-hl,OB hi]
  grind
 unfold LB;rw[c];have:(s.Vols.map λv=>Vol.mk v.Id<|PN s.Arena.Knots (Bs s) v.Root)=s.Vols:=by
  conv=>rhs;rw[<-VD s.Vols]
  apply CQ;intro v hv;rw[a _<|A6.2 ⟨v,hv,rfl⟩];rfl
 rw[this]
theorem dE {s:Nat} (hs:s<16):Se K r s∈EG K r:=A6.2 ⟨s,by simpa using hs,rfl⟩
theorem SJ {l:List Int} {y:Int} (h:l.Pairwise (·<·)) (a:i<j) (hx:l[i]?=some x) (hy:l[j]?=some y):x<y:=by
 obtain⟨h1,rfl⟩:=Ae.1 hx;obtain⟨h2,rfl⟩:=Ae.1 hy;exact CF.1 h i j h1 h2 a
theorem S6 (h:C4 s):PX s=some true:=by
 have hl:=h.len;have hf:=h.few;have d:(Bs s).length=s.Vols.length:=by unfold Bs;rw[B7]
 unfold PX;rw[Bk,cF,KR _ (by omega),h.ar,Di,Ac h.nx];obtain⟨b,h1,h2⟩:=AJ (body:=λq:Int=>KJ s q) (λ(_:Unit) i=>i) s.Vols.length (λ_ _=>True) (λb=>b= .inl ())
  (λ_ i hi _=>by
   have hx:=Ab hi;have hm:s.Vols[i]∈s.Vols:=Ax hi;have hr:s.Vols[i].Root∈Bs s:=A6.2 ⟨_,hm,rfl⟩;simp only[KJ,DF hi,Au,hx,Aa];rw[Di,Ac<|h.ids _ hm,NB _ (by omega),h.root _ hr];simp only[Aa,Al,Ad];have a:(cond (decide<|(i:Int)>0) ((gi s.Vols<|sb (i:Int) 1).bind λx2=>cond (decide<|x2.Id>=s.Vols[i].Id) (some true)<|some false) (some false):Option Bool)=some false:=by
    by_cases h0:i=0
    ·rw[cF]
    rw[cT,Co,show(i:Int)-1=((i-1:Nat):Int) by omega,Au,Ab<|by omega];simp only[Aa];have:=SJ h.asc (show i-1<i by omega) (x:=s.Vols[i-1].Id) (y:=s.Vols[i].Id) (by grind) (by grind);rw[cF]
   rw[a];obtain⟨c,q1,q2⟩:=AJ (body:=λq:Int=>NC s s.Vols[i] q) (λ(_:Unit) i=>i) 16 (λ_ _=>True) (λb=>b= .inl ())
    (λ_ k hk _=>by
     simp only[NC];rw[cT,Yk _ h.ar (h.root _ hr) hk];simp only[Aa];have:=h.lt _ hr _<|dE hk;rw[cF,ad1]
     simp)
    (λ_ _=>⟨_,by rfl,rfl⟩) (s:=()) trivial
   rw[q1,q2];rw[ad1]
   simp)
  (λ_ _=>⟨_,by simp only[KJ,Du],rfl⟩) (s:=()) trivial
 rw[h1,h2];simp only[Aa,Cq];rw[UF s (by omega),Aa,aI _ (by omega) h.ar _ (by omega) h.root];have:VB s.Arena.Knots (Bs s)=s.Arena.Knots:=by
  have:=ZS h;unfold LB at this
  grind
 rw[this];simp
abbrev Vs:=List<|Int×List Int
def HI (l:Vs) (id:Int):Option (List Int):=(l.find? λp=>p.1==id).map Prod.snd
def bR (l:Vs) (id:Int) (a:List Int):Vs:=(l.filter λp=>decide<|p.1<id)++ [(id,a)]++l.filter λp=>decide<|p.1>id
def vA (l:Vs) (id:Int):Vs:=l.filter λp=>p.1 !=id
def eE (l:Vs) (id:Int) (s:Nat) (n:Int):Vs:=l.map λp=>if p.1=id then(p.1,p.2.set s n)else p
def GN (r:Cv):Bool:=decide (0<=r.Arg/\r.Arg<=1000000000)&&(bif r.Kind==1 then r.Vol==0&&r.Chunk==0 else decide (2<=r.Kind/\r.Kind<=5)&&decide (1<=r.Vol/\r.Vol<=9)&&(r.Kind==4||r.Chunk==0)&&
 (bif r.Kind==2 then decide (r.Arg<=9)else bif r.Kind==3 then r.Arg==0 else bif r.Kind==4 then decide (r.Arg<16)&&decide (1<=r.Chunk/\r.Chunk<=1000000000)else decide (r.Arg<16)))
def Ok:List Int:=List.replicate 16 0
def Db (l:Vs) (nx:Int) (r:Cv):Option (Vs×Int):=if GN r=false then none else if r.Kind=1 then some ([],if r.Arg=0 then 1 else r.Arg) else if r.Kind=2 then
  if(0<r.Arg/\HI l r.Arg=none)\/HI l r.Vol≠none\/l.length=3 then none else some (bR l r.Vol (if 0<r.Arg then(HI l r.Arg).getD Ok else Ok),nx) else if HI l r.Vol=none\/r.Chunk=1000000000 then none else if r.Kind=3 then some (vA l r.Vol,nx) else some (eE l r.Vol r.Arg.toNat r.Chunk,max nx<|r.Chunk+1)
theorem NZ (r:Cv):Pk r=some (GN r):=by
 unfold Pk GN;simp only[Di,Aa]
 cases decide (0<=r.Arg/\r.Arg<=1000000000)with
 |false=>rfl
 |true=>grind
theorem DT (s:Store) (hv:s.Vols.length<=1048576) (id:Int):(De s id=some (-1)/\∀v∈s.Vols,v.Id≠id)\/∃k:Nat,∃v,De s id=some (k:Int)/\s.Vols[k]?=some v/\v.Id=id/\∀j w,j<k->s.Vols[j]?=some w->w.Id≠id:=by
 unfold De;obtain⟨b,h1,h2⟩:=AJ (body:=λq:Int=>Hw s id q) (λ(_:Unit) i=>i) s.Vols.length (λi _=>∀j w,j<i->s.Vols[j]?=some w->w.Id≠id)
  (λb=>(b= .inl ()/\∀v∈s.Vols,v.Id≠id)\/∃k:Nat,∃v,b= .inr (k:Int)/\s.Vols[k]?=some v/\v.Id=id/\∀j w,j<k->s.Vols[j]?=some w->w.Id≠id)
  (λ_ i hi hs=>by
   have hx:=Ab hi;simp only[Hw,DF hi,Au,hx,Aa]
   cases e:(s.Vols[i].Id==id)with
   |true=>grind
   |false=>
    rw[ad1];refine .inl ⟨(),rfl,λj w hj hw=>?_⟩
    grind)
  (λ_ hs=>⟨_,by simp only[Hw,Du],.inl ⟨rfl,λv hv=>by
   obtain⟨j,hj,rfl⟩:=A4 hv
   exact hs j _ hj<|Ab hj⟩⟩) (s:=()) (λj w hj=>by omega)
 grind
theorem Jk {id:Int}:(∀v∈s.Vols,v.Id≠id)↔HI (AL s) id=none:=by
 unfold HI AL;simp
theorem ADU {w:Vol} (h:(s.Vols.map Vol.Id).Pairwise (·<·)) (hv:v∈s.Vols) (hw:w∈s.Vols) (e:v.Id=w.Id):v=w:=by
 obtain⟨i,hi,rfl⟩:=A4 hv;obtain⟨j,hj,rfl⟩:=A4 hw;have gi:(s.Vols.map Vol.Id)[i]?=some s.Vols[i].Id:=by grind
 have gj:(s.Vols.map Vol.Id)[j]?=some s.Vols[j].Id:=by grind
 rcases VC i j with h1|h1|h1
 ·have:=SJ h h1 gi gj;omega
 ·subst h1;rfl
 have:=SJ h h1 gj gi;omega
theorem Mf (h:(s.Vols.map Vol.Id).Pairwise (·<·)) (hv:v∈s.Vols):HI (AL s) v.Id=some (EG s.Arena.Knots v.Root):=by
 unfold HI;have hm:(v.Id,EG s.Arena.Knots v.Root)∈AL s:=A6.2 ⟨v,hv,rfl⟩
 cases hf:(AL s).find? λp=>p.1==v.Id with
 |none=>grind
 |some p=>
  have h1:=List.find?_some hf;have h2:=List.mem_of_find?_eq_some hf;obtain⟨w,hw,rfl⟩:=A6.1 h2;have:w=v:=ADU h hw hv (by simpa using h1);rw[this];rfl
theorem IN (s:Store):(AL s).length=s.Vols.length:=by unfold AL;rw[B7]
theorem pU (K:Ks):EG K (-1)=Ok:=by rfl
theorem vJ (s:Store) (p:Int->Bool) (t:Store) (hk:t.Arena=s.Arena) (hv:t.Vols=s.Vols.filter λv=>p v.Id):AL t=(AL s).filter λq=>p q.1:=by
 unfold AL;rw[hk,hv,List.filter_map];rfl
theorem TQ {body:List Vol×Int->Option ((List Vol×Int)⊕List Vol)} (l:List Vol) (p:Vol->Bool) (o:List Vol) (hM:l.length+o.length<=1048576) (h1:∀(i:Nat) v (a:List Vol),l[i]?=some v->a.length<=1048576->body (a,(i:Int))=some (.inl (bif p v then a++ [v]else a,((i+1:Nat):Int)))) (h2:∀a,body (a,(l.length:Int))=some (.inr a)):
  An body (o,0)=some (o++l.filter p):=by
 obtain⟨b,h3,h4⟩:=AJ (body:=body) (λ(q:List Vol) i=>(q,i)) l.length (λi q=>q=o++(l.take i).filter p) (λb=>b=o++l.filter p)
  (λq i hi hq=>by
   have hx:=Ab hi;refine .inl ⟨_,h1 i _ q hx ?_,?_⟩
   ·grind
   rw[hq,DP,hx,AS]
   grind)
  (λq hq=>⟨q,h2 q,by grind⟩) (s:=o) (by simp)
 rw[h3,h4]
theorem AB7 {R':List Int} (h:∀r∈R,r∈R') (hu:CB K R i=true):CB K R' i=true:=by
 unfold CB at hu⊢
 grind
theorem aA {l:List Vol} (h:(l.map Vol.Id).Pairwise (·<·)) (v:Vol):(((l.filter λw=>decide (w.Id<v.Id))++ [v]++l.filter λw=>decide (w.Id>v.Id)).map Vol.Id).Pairwise (·<·):=by
 rw[K9]at h;rw[K9,AE,AR];refine⟨h.filter _,?_,?_⟩
 ·grind
 grind
theorem gW (l:List Vol) (id:Int):(l.filter λw=>decide (w.Id<id)).length+(l.filter λw=>decide (w.Id>id)).length<=l.length:=by
 induction l with
 |nil=>simp
 |cons v l ih=>grind
def Mx (s:Store) (r:Cv) (o:Option (Store×Bool)):Prop:=match Db (AL s) s.Next r with
 |none=>o=some (s,false)
 |some (l,nx)=>∃t,o=some (t,true)/\C4 t/\AL t=l/\t.Next=nx
theorem AAl {r:Cv} (h:C4 s) (hr:GN r=true) (hk:r.Kind=2):Mx s r (Gr s r):=by
 have hl:=h.len;have d:=Lr h.ar (by have:=h.few;omega);have b:=Gt s d (by omega);have hb:GN r=true:=hr;unfold GN at hr;rw[hk]at hr;simp at hr;unfold Mx Db;rw[hb,hk];simp only[UC,Kc,Cj,show¬((2:Int)=1) by omega];unfold Gr;have root:(HI (AL s) r.Arg=none/\0<r.Arg/\(cond (decide<|r.Arg>0) ((De s r.Arg).bind λv1=>cond (decide<|v1<0) ((Ee s).bind λv2=>some<|.inr (v2,false))<|(gi s.Vols v1).bind λx1=>some<|.inl x1.Root) (some<|.inl<|-1):Option (Int⊕(Store×Bool)))=some (.inr (s,false)))\/
   (¬(0<r.Arg/\HI (AL s) r.Arg=none)/\∃q,Dy s.Arena.Knots q=true/\(q= -1\/q∈Bs s)/\EG s.Arena.Knots q=(if 0<r.Arg then(HI (AL s) r.Arg).getD Ok else Ok)/\(cond (decide<|r.Arg>0) ((De s r.Arg).bind λv1=>cond (decide<|v1<0) ((Ee s).bind λv2=>some<|.inr (v2,false))<|(gi s.Vols v1).bind λx1=>some<|.inl x1.Root) (some<|.inl<|-1):Option (Int⊕(Store×Bool)))=some (.inl q)):=by
  by_cases h0:0<r.Arg
  ·rw[Ac (by omega:r.Arg>0)]
   rcases DT s (by omega) r.Arg with⟨h1,h2⟩|⟨k,v,h1,h2,h3,_⟩
   ·left;rw[h1,b];exact⟨Jk.1 h2,h0,rfl⟩
   right;rw[h1];have hm:=Ar h2;have hg:=Mf h.asc hm;refine⟨λhh=>(by grind),v.Root,h.root _<|A6.2 ⟨v,hm,rfl⟩,.inr<|A6.2 ⟨v,hm,rfl⟩,?_,?_⟩
   ·grind
   simp only[Aa];rw[cF,Au,h2];rfl
  right;rw[Af (by omega:¬r.Arg>0),AM h0];exact⟨λhh=>h0 hh.1,-1,rfl,.inl rfl,pU _,rfl⟩
 rcases root with⟨g1,g2,g3⟩|⟨g1,q,g2,g3,g4,g5⟩
 ·grind
 rw[g5];simp only[Aa,Cq]
 rcases DT s (by omega) r.Vol with⟨h1,h2⟩|⟨k,v,h1,h2,h3,_⟩
 ·rw[h1];rw[Aa,cF,Bk];have j:HI (AL s) r.Vol=none:=Jk.1 h2;by_cases h3:s.Vols.length=3
  ·rw[h3,AG<|.inr<|.inr<|by rw[IN,h3]]
   grind
  have e3:((s.Vols.length:Int)==3)=false:=by simp;omega
  rw[e3,AM (by
   rintro(hh|hh|hh)
   ·exact g1 hh
   ·exact hh j
   rw[IN]at hh;exact h3 hh)]
  rw[b];have k1:=TQ (body:=λq:List Vol×Int=>Hn s r q.1 q.2) s.Vols (λv=>decide<|v.Id<r.Vol) [] (by simp;omega)
   (λi v c hv ho=>by
    have hi:=(Ae.1 hv).1;simp only[Hn,DF hi,Au,hv,Aa];rw[ad1]
    cases decide (v.Id<r.Vol)with
    |true=>rw[Bl (by simp;omega)];rfl
    |false=>rfl)
   (λc=>by simp only[Hn,Du])
  rw[A3]at k1;rw[k1];simp only[Aa];have l:=gW s.Vols r.Vol;rw[Bl (by simp;omega)];simp only[Aa];have k2:=TQ (body:=λq:List Vol×Int=>Hm s r q.1 q.2) s.Vols (λv=>decide<|v.Id>r.Vol) ((s.Vols.filter λv=>decide<|v.Id<r.Vol)++ [Vol.mk r.Vol q]) (by simp;omega)
   (λi v c hv ho=>by
    have hi:=(Ae.1 hv).1;simp only[Hm,DF hi,Au,hv,Aa];rw[ad1]
    cases decide (v.Id>r.Vol)with
    |true=>rw[Bl (by simp;omega)];rfl
    |false=>rfl)
   (λc=>by simp only[Hm,Du])
  rw[k2];have f:((s.Vols.filter λv=>decide<|v.Id<r.Vol)++ [Vol.mk r.Vol q]++s.Vols.filter λv=>decide<|v.Id>r.Vol).length<=3:=by grind
  have g:∀x∈Bs s,x∈(Bs<|Store.mk ((s.Vols.filter λv=>decide<|v.Id<r.Vol)++ [Vol.mk r.Vol q]++s.Vols.filter λv=>decide<|v.Id>r.Vol) s.Arena s.Next):=by
   intro x hx;obtain⟨v,hv,rfl⟩:=A6.1 hx;refine A6.2 ⟨v,?_,rfl⟩
   grind
  have a:∀x∈(Bs<|Store.mk ((s.Vols.filter λv=>decide<|v.Id<r.Vol)++ [Vol.mk r.Vol q]++s.Vols.filter λv=>decide<|v.Id>r.Vol) s.Arena s.Next),x= -1\/x∈Bs s:=by
   intro x hx;obtain⟨v,hv,rfl⟩:=A6.1 hx;simp only[Ao,AY,Bj]at hv
   rcases hv with(hv|rfl)|hv
   ·exact .inr<|A6.2 ⟨v,hv.1,rfl⟩
   ·exact g3
   exact .inr<|A6.2 ⟨v,hv.1,rfl⟩
  refine⟨_,rfl,⟨⟨f,h.ar,h.nx,?_,aA h.asc<|Vol.mk r.Vol q,?_,?_,h.few⟩,?_⟩,?_,rfl⟩
  ·intro v hv;simp only[Ao,AY,Bj]at hv
   rcases hv with(hv|rfl)|hv
   ·exact h.ids v hv.1
   ·grind
   exact h.ids v hv.1
  ·intro x hx
   rcases a x hx with e|e
   ·rw[e];rfl
   exact h.root x e
  ·intro x hx
   rcases a x hx with e|e
   ·intro y hy;rw[e]at hy;rw[pU]at hy;have:=Dp hy;have:=h.nx
    grind
   exact h.lt x e
  ·intro i hi;exact AB7 g<|h.used i hi
  rw[<-g4];unfold bR AL;simp only[Cp,CM,vX,List.filter_map];rfl
 rw[h1];have hg:=Mf h.asc<|Ar h2
 grind
theorem PK {f:α->Int} {v:α} (h:(l.map f).Pairwise (·<·)) (hv:l[k]?=some v):l.take k++l.drop (k+1)=l.filter λw=>f w !=f v:=by
 rw[K9]at h;have hk:=(Ae.1 hv).1;have e:l=l.take k++v::l.drop (k+1):=by
  have h2:=AH hk;rw[(Ae.1 hv).2]at h2;rw[<-h2,BU]
 rw[e,AR]at h;obtain⟨h1,h2,h3⟩:=h;rw[C1]at h2
 conv=>rhs;rw[e]
 rw[AS,Ey<|by simp];congr 1
 ·symm;rw[GK]
  grind
 symm;rw[GK]
 grind
theorem ACj (h:C4 s) (id:Int):StoreR (Store.mk (s.Vols.filter λw=>w.Id !=id) s.Arena s.Next):=by
 have hl:=h.len;refine⟨?_,h.ar,h.nx,λv hv=>h.ids v (AY.1 hv).1,?_,?_,?_,h.few⟩
 ·grind
 ·have:=h.asc
  grind
 ·intro x hx;obtain⟨w,hw,rfl⟩:=A6.1 hx;exact h.root _<|A6.2 ⟨w,(AY.1 hw).1,rfl⟩
 intro x hx;obtain⟨w,hw,rfl⟩:=A6.1 hx;exact h.lt _<|A6.2 ⟨w,(AY.1 hw).1,rfl⟩
theorem AEi {t:Nat} (h:C4 s) (h2:s.Vols[k]?=some v) (ht:t<16) (hn:0<=n) (e:n+1<=1000000000):StoreR (Store.mk (s.Vols.set k (Vol.mk v.Id ((s.Arena.Knots.length:Int)+1))) (Arena.mk (Ka s.Arena.Knots v.Root t n)) (max s.Next (n+1))):=by
 have hl:=h.len;have hm:=Ar h2;have a:=h.root _<|A6.2 ⟨v,hm,rfl⟩;have f:=h.small
 have b:∀w∈s.Vols.set k (Vol.mk v.Id<|(s.Arena.Knots.length:Int)+1),w∈s.Vols\/w=Vol.mk v.Id ((s.Arena.Knots.length:Int)+1):=λw hw=>CG hw
 refine⟨by simpa using hl,AER h.ar a ht hn,?_,?_,?_,?_,?_,?_⟩
 ·have:=h.nx
  grind
 ·intro w hw
  rcases b w hw with hw|rfl
  ·exact h.ids w hw
  exact h.ids v hm
 ·have:(s.Vols.set k<|Vol.mk v.Id<|(s.Arena.Knots.length:Int)+1).map Vol.Id=s.Vols.map Vol.Id:=by
   rw[List.map_set];apply BO
   grind
  rw[this];exact h.asc
 ·intro x hx;obtain⟨w,hw,rfl⟩:=A6.1 hx
  rcases b w hw with hw|rfl
  ·exact ABf<|h.root _<|A6.2 ⟨w,hw,rfl⟩
  exact zP
 ·intro x hx y hy;obtain⟨w,hw,rfl⟩:=A6.1 hx;show y<max s.Next (n+1)
  rcases b w hw with hw|rfl
  ·have d:=h.root _<|A6.2 ⟨w,hw,rfl⟩;have c:y∈EG s.Arena.Knots w.Root:=by rw[<-wV (X:=[Br.mk true<|Qh s.Arena.Knots v.Root t n,Br.mk false<|UX s.Arena.Knots v.Root t]) h.ar d];exact hy
   have:=h.lt _ (A6.2 ⟨w,hw,rfl⟩) y c;omega
  have c:y∈(EG s.Arena.Knots v.Root).set t n:=by rw[<-xK (s:=t) (n:=n) h.ar a (by omega)];exact hy
  rcases CG c with c|rfl
  ·have:=h.lt _ (A6.2 ⟨v,hm,rfl⟩) y c;omega
  omega
 unfold Ka;simp;omega
theorem cW (h:C4 s) (r:Cv):Mx s r (TH s r):=by
 have hl:=h.len;have d:=Lr h.ar (by have:=h.few;omega);have a:=Gt s d (by omega);unfold TH;rw[S6 h,NZ];simp only[Aa,Al,Ad]
 cases hb:GN r with
 |false=>
  rw[a];unfold Mx Db;rw[hb];rfl
 |true=>
  have hr:=hb;unfold GN at hr
  cases k1:(r.Kind==1)with
  |true=>
   have e1:r.Kind=1:=by simpa using k1
   rw[e1]at hr;simp at hr;unfold Mx Db;rw[hb,e1];have:(cond (r.Arg==0) (some 1) (some r.Arg):Option Int)=some (if r.Arg=0 then 1 else r.Arg):=by grind
   rw[this];refine⟨_,rfl,⟨⟨by simp,rfl,?_,by simp,by simp,by simp[Bs],by simp[Bs],by simp⟩,by simp⟩,rfl,rfl⟩
   grind
  |false=>
   have n1:r.Kind≠1:=by simpa using k1
   rw[k1]at hr
   cases k2:(r.Kind==2)with
   |true=>
    have:=AAl h hb (by simpa using k2);have e:((Gr s r).bind λv4=>some (v4.1,v4.2))=Gr s r:=by cases Gr s r<;>rfl
    grind
   |false=>
    have n2:r.Kind≠2:=by simpa using k2
    unfold Mx Db;rw[hb];simp only[UC,Kc,AM n1,AM n2]
    rcases DT s (by omega) r.Vol with⟨h1,h2⟩|⟨k,v,h1,h2,h3,_⟩
    ·rw[h1];simp only[Aa];rw[cT,AG<|.inl<|Jk.1 h2]
     grind
    rw[h1];simp only[Aa];rw[cF];simp only[Aa];have hm:=Ar h2;have g:=(Ae.1 h2).1;have hg:=Mf h.asc hm
    cases hc:(r.Chunk==1000000000)with
    |true=>grind
    |false=>
     have n:r.Chunk≠1000000000:=by simpa using hc
     rw[AM (by grind),a];simp only[Aa]
     cases k3:(r.Kind==3)with
     |true=>
      have e3:r.Kind=3:=by simpa using k3
      rw[AG e3];rw[Bk,ad1];have d1:dr s.Vols 0 (k:Int)=some (s.Vols.take k):=by
       unfold dr
       grind
      have d2:dr s.Vols ((k+1:Nat):Int) (s.Vols.length:Int)=some (s.Vols.drop<|k+1):=by
       unfold dr;rw[AG ⟨by omega,by omega,by omega⟩,Ba,Ba,AI<|by simp]
      rw[d1,d2];simp only[Aa];rw[Mn (by simp;omega)];simp only[Aa];rw[Bl (by simp;omega),PK h.asc h2,h3];simp only[Aa];have hR:=ACj h r.Vol;rw[Jw hR];refine⟨_,rfl,wL hR,?_,rfl⟩;rw[gP hR];exact vJ s (λid=>id !=r.Vol) _ rfl rfl
     |false=>
      have n3:r.Kind≠3:=by simpa using k3
      rw[AM n3];have ha:0<=r.Arg/\r.Arg<16/\0<=r.Chunk/\r.Chunk<=1000000000:=by grind
      obtain⟨t,ht⟩:∃t:Nat,r.Arg=(t:Int):=⟨_,(AT ha.1).symm⟩;rw[Au,h2];simp only[Aa];have c:=h.root _<|A6.2 ⟨v,hm,rfl⟩;rw[ht,aK _ (by have:=h.few;omega) h.ar c (by omega) ha.2.2.1];simp only[Aa];rw[DJ];have hR:=AEi h h2 (show t<16 by omega) ha.2.2.1 (show r.Chunk+1<=1000000000 by omega);have f:AL (Store.mk (s.Vols.set k<|Vol.mk v.Id<|(s.Arena.Knots.length:Int)+1) (Arena.mk<|Ka s.Arena.Knots v.Root t r.Chunk)<|max s.Next<|r.Chunk+1)=eE (AL s) r.Vol t r.Chunk:=by
       unfold AL eE;simp only[FI];apply BO;intro j;rw[BY,BY,Gl];by_cases e:k=j
       ·subst e;rw[AG rfl,AG g,h2];simp only[BD,Function.comp];rw[AG h3,xK h.ar c<|by omega]
       rw[AM e]
       cases hj:s.Vols[j]? with
       |none=>rfl
       |some w=>
        have i:=Ar hj;have l:w.Id≠r.Vol:=by
         intro e2;have gi:(s.Vols.map Vol.Id)[k]?=some v.Id:=by grind
         have gj:(s.Vols.map Vol.Id)[j]?=some w.Id:=by grind
         rcases VC k j with q|q|q
         ·have:=SJ h.asc q gi gj;omega
         ·exact e q
         grind
        simp only[BD,Function.comp];rw[AM l];have:=wV (X:=[Br.mk true<|Qh s.Arena.Knots v.Root t r.Chunk,Br.mk false<|UX s.Arena.Knots v.Root t]) h.ar<|h.root _<|A6.2 ⟨w,i,rfl⟩;unfold Ka;rw[this]
      have m:∀b:Bool,b=decide (r.Chunk>=s.Next)->(cond b ((Hv<|Store.mk (s.Vols.set k<|Vol.mk v.Id<|(s.Arena.Knots.length:Int)+1) (Arena.mk<|Ka s.Arena.Knots v.Root t r.Chunk)<|ad r.Chunk 1).bind λv11=>some (v11,true))<|(Hv<|Store.mk (s.Vols.set k<|Vol.mk v.Id<|(s.Arena.Knots.length:Int)+1) (Arena.mk<|Ka s.Arena.Knots v.Root t r.Chunk) s.Next).bind λv12=>some (v12,true))=(Hv<|Store.mk (s.Vols.set k<|Vol.mk v.Id<|(s.Arena.Knots.length:Int)+1) (Arena.mk<|Ka s.Arena.Knots v.Root t r.Chunk)<|max s.Next<|r.Chunk+1).bind λv=>some (v,true):=by
       intro b hb;by_cases e:r.Chunk>=s.Next
       ·rw[hb,Ac e,Ai,Cz,show max s.Next (r.Chunk+1)=r.Chunk+1 by omega]
       grind
      rw[m _ rfl,Jw hR];refine⟨_,rfl,wL hR,?_,rfl⟩;rw[gP hR,f,Ba]
theorem ABR (s:ByteArray) (f a:Int):O0 s f a=An (λn:Int=>Gz s a f n) 0:=by
 show(An (λn:Int=>Gz s a f n) 0).bind _=_;simp
theorem ABQ (s:ByteArray) (f a:Nat) (hf:f<a) (ha:a<=(L s).length) (hs:(L s).length<=64):∃k:Nat,An (λn:Int=>Gz s (a:Int) (f:Int) n) 0=some (k:Int)/\k<=31/\a+k<=(L s).length:=by
 obtain⟨b,h1,k,rfl,h2,h3⟩:=AJ (body:=λn:Int=>Gz s (a:Int) (f:Int) n) (λ(_:Unit) i=>i) 31 (λi _=>a+i<=(L s).length) (λb=>∃k:Nat,b=(k:Int)/\k<=31/\a+k<=(L s).length)
  (λ_ i hi hs=>by
   simp only[Gz];rw[cT,Cz,Cz,B4];by_cases c:a+i<(L s).length
   ·rw[cT];have e1:((f:Int)+(i:Int))=((f+i:Nat):Int):=by omega
    have e2:((a:Int)+(i:Int))=((a+i:Nat):Int):=by omega
    rw[e1,e2,Fc s (by omega),Fc s c];simp only[Aa]
    cases((((L s)[f+i]).toNat:Int)==(((L s)[a+i]).toNat:Int))with
    |true=>
     rw[ad1];exact .inl ⟨(),rfl,by omega⟩
    |false=>grind
   grind)
  (λ_ hs=>by
   simp only[Gz];rw[cF]
   exact⟨_,rfl,31,rfl,by omega,hs⟩) (s:=()) (by omega)
 grind
theorem uJ (s:ByteArray) (a:Nat) (ha:a<=(L s).length) (hs:(L s).length<=64):∃z b:Nat,TT s (a:Int)=some ((z:Int),(b:Int))/\An (λq:Int×Int×Int=>E6 s (a:Int) q.1 q.2.1 q.2.2) (0,0,sb (a:Int) 1)=some ((z:Int),(b:Int))/\z<=31/\a+z<=(L s).length/\(z=0\/4<=z/\1<=b/\b<=a):=by
 have c:(λq:Int×Int×Int=>E6 s (a:Int) q.1 q.2.1 q.2.2)=λq:Int×Int×Int=>H4 s (a:Int) q.1 q.2.1 q.2.2:=by
  simp only[E6,H4,ABR]
 rw[c,Co];obtain⟨r,h1,z,b,rfl,h2,h3,h4⟩:=AJ (body:=λq:Int×Int×Int=>H4 s (a:Int) q.1 q.2.1 q.2.2) (λ(q:Nat×Nat) i=>((q.1:Int),(q.2:Int),(a:Int)-1-i)) a (λi q=>q.1<=31/\a+q.1<=(L s).length/\(q.1=0\/4<=q.1/\1<=q.2/\q.2<=a)) (λr=>∃z b:Nat,r=((z:Int),(b:Int))/\z<=31/\a+z<=(L s).length/\(z=0\/4<=z/\1<=b/\b<=a))
  (λq i hi hq=>by
   obtain⟨k,m1,m2,m3⟩:=ABQ s (a-1-i) a (by omega) ha hs;have e1:((a:Int)-1-(i:Int))=((a-1-i:Nat):Int):=by omega
   simp only[H4,e1];rw[Ac (by omega:(((a-1-i:Nat)):Int)>=0),Ai,m1,Aa,Co,Co];refine .inl ?_;have e2:(((a-1-i:Nat):Int)-1)=(a:Int)-1-((i+1:Nat):Int):=by omega
   have e3:((a:Int)-((a-1-i:Nat):Int))=((1+i:Nat):Int):=by omega
   rw[e2,e3];by_cases h4:4<=k
   ·rw[cT];by_cases h5:q.1<k
    ·rw[Ac (by omega:(k:Int)>(q.1:Int))];exact⟨(k,1+i),rfl,m2,m3,.inr ⟨h4,by omega,by omega⟩⟩
    grind
   grind)
  (λq hq=>by
   simp only[H4]
   grind) (s:=(0,0)) ⟨by omega,by omega,.inl rfl⟩
 have e0:(((0:Nat):Int),((0:Nat):Int),(a:Int)-1-0)=((0:Int),(0:Int),(a:Int)-1):=by simp
 simp only[e0]at h1;refine⟨z,b,?_,h1,h2,h3,h4⟩;unfold TT;rw[Co,h1];rfl
def VR (t:AX):Prop:=(t.Back=0/\t.Size=0/\1<=(L t.Text).length/\(L t.Text).length<=31)\/(1<=t.Back/\t.Back<=64/\4<=t.Size/\t.Size<=31/\L t.Text=[])
theorem Fs (l:List α) (x:α):gi (l++ [x]) (l.length:Int)=some x:=by
 rw[Au];simp
theorem Kl (l:List α) (x y:α):si (l++ [x]) (l.length:Int) y=l++ [y]:=by
 rw[DJ];simp
theorem sG (s:ByteArray) (hs:(L s).length<=64):∃l,LP s=some l/\Rt s=some l/\l.length<=64/\∀t∈l,VR t:=by
 unfold LP Rt;obtain⟨l,h1,h2,h3,h4⟩:=TO (body:=λq:List AX×Int=>C5 s q.1 q.2) (body':=λq:List AX×Int=>M3 s q.1 q.2) (λq=>(L s).length-q.2.toNat)
  (λq=>∃a:Nat,q.2=(a:Int)/\a<=(L s).length/\q.1.length<=a/\∀t∈q.1,VR t) (λl=>l.length<=64/\∀t∈l,VR t)
  (by
   rintro⟨f,at_⟩ ⟨a,ha,h1,h2,h3⟩;simp only at ha h2 h3;subst ha;simp only[C5,M3];rw[B4];by_cases i:a<(L s).length
   ·rw[Ac (by omega:(a:Int)<((L s).length:Int)),Ai,Ai];obtain⟨z,b,m1,m2,m3,m4,m5⟩:=uJ s a h1 hs;rw[m1,m2];simp only[Aa]
    have c:∀x:AX,ap 32 f [x]=some (f++ [x]):=λx=>Bl<|by grind
    refine .inl ?_;by_cases hz:z=0
    ·subst hz;have esub:sub s (a:Int) (ad (a:Int) 1)=some (s.extract a<|a+1):=by rw[ad1];exact Fd s (by omega) (by omega)
     have elen:(L<|s.extract a<|a+1).length=1:=by rw[Ib];simp;omega
     rw[esub,ad1,Co (by rw[Bk];omega) (by rw[Bk];omega),Bk]
     have ecat:∀x:ByteArray,(L x).length<=31->Ie x (s.extract a<|a+1)=some (x++s.extract a (a+1)):=λx hx=>FR _ _ (by rw[elen];omega)
     have e0:Ie (bs []) (s.extract a<|a+1)=some (s.extract a<|a+1):=by
      rw[ecat _ (by rw[Es];simp)];rfl
     have enew:VR (AX.mk 0 0<|s.extract a<|a+1):= .inl ⟨rfl,rfl,by grind,by grind⟩
     have d:∀(o:List AX) (x:AX),(∀t∈o,VR t)->VR x->∀t∈o++ [x],VR t:=λo x ho hx t ht=>by grind
     have fin:∀o:List AX,o.length<=a+1->(∀t∈o,VR t)->(∃a':Nat,((a+1:Nat):Int)=(a':Int)/\a'<=(L s).length/\o.length<=a'/\∀t∈o,VR t)/\(L s).length-(((a+1:Nat)):Int).toNat<(L s).length-((a:Int)).toNat:=λo g h=>⟨⟨a+1,rfl,by omega,g,h⟩,by omega⟩
     rcases Hu f with rfl|⟨o,x,rfl⟩
     ·simp only[El,Int.ofNat_zero,Int.zero_sub];rw[Ac (by omega:(-1:Int)<0),Af (by omega:¬(-1:Int)>=0)];simp only[Ai,Ad,Aa,c];rw[show ad (-1) 1=(([]:List AX).length:Int)from rfl];simp only[Fs,Aa,e0,Kl];exact⟨_,rfl,rfl,fin _ (by simp)<|d _ _ (by simp) enew⟩
     rw[K7]at h2 h3 c⊢;simp only[Ak,BG]at h2⊢;have ek:(((o.length+1:Nat):Int)-1)=(o.length:Int):=by omega
     rw[ek,Af (by omega:¬(o.length:Int)<0),Ac (by omega:(o.length:Int)>=0)];simp only[Ai,Ad,Fs,Aa];have hx:=h3 x (by simp);have e:=d (o++ [x]) _ h3 enew;have elast:ad (o.length:Int) 1=((o++ [x]).length:Int):=by rw[ad1];simp
     rcases hx with⟨x1,x2,x3,x4⟩|⟨x1,x2,x3,x4,x5⟩
     ·rw[x1];simp only[show((0:Int)==0)=true from rfl,Ai,show decide ((0:Int)>0)=false from rfl,Ad];rw[B4];by_cases h31:(L x.Text).length<31
      ·rw[Ac (by omega:((L x.Text).length:Int)<31),Af (by omega:¬((L x.Text).length:Int)>=31)];simp only[Ai,Ad,Aa,Fs,ecat _ x4,Kl];simp only[x1];refine⟨_,rfl,rfl,fin _ (by simp;omega)<|d _ _ (λt ht=>h3 t<|by simp[ht])<|.inl ⟨rfl,x2,?_,?_⟩⟩
       ·simp only;rw[DN,Ak,elen];omega
       simp only;rw[DN,Ak,elen];omega
      rw[Af (by omega:¬((L x.Text).length:Int)<31),Ac (by omega:((L x.Text).length:Int)>=31)];simp only[Ai,Ad,Aa,c,elast,Fs,e0,Kl];exact⟨_,rfl,rfl,fin _ (by simp;omega) e⟩
     have hb:(x.Back==0)=false:=by simp;omega
     rw[hb,Ac (by omega:x.Back>0)];simp only[Ai,Ad,Aa,c,elast,Fs,e0,Kl];exact⟨_,rfl,rfl,fin _ (by simp;omega) e⟩
    rw[Ac (by omega:(z:Int)>0),Ai,Ai,c];rw[Cz];refine⟨_,rfl,rfl,⟨a+z,by simp,by omega,by simp;omega,?_⟩,by simp only;omega⟩;intro t ht
    rcases Ao.1 ht with ht|ht
    ·exact h3 t ht
    rw[Bj]at ht;subst ht;refine .inr ⟨?_,?_,?_,?_,by rfl⟩<;>simp only<;>omega
   grind) ((L s).length) ([],0) (by simp) ⟨0,rfl,by omega,by simp,by simp⟩
 grind
theorem VT (l m:List Int):L (Fe (l++m))=L (Fe l)++L (Fe m):=by rw[Mo,Mo,Mo,Cp]
theorem Oo (l:List Int):(L (Fe l)).length=l.length:=by rw[Mo,B7]
theorem AAW (b:ByteArray):L (Fe (tL b))=L b:=by
 rw[Mo,tL,FI];have:((λn:Int=>UInt8.ofNat n.toNat)∘λc:UInt8=>(c.toNat:Int))=id:=by
  funext c;simp
 rw[this,VD];rfl
theorem ACx (l:List Int) (b:ByteArray):aps l b=ap 1 l (tL b):=by
 have:(tL b).length=b.size:=by simp[tL]
 unfold aps ap
 grind
theorem kS (b:ByteArray):(tL b).length=(L b).length:=by simp[tL,L]
theorem YQ (s:ByteArray):∃z ok,EW s=some (z,ok)/\Me s=some (z,ok)/\(ok=false->z=bs [])/\(ok=true->(L s).length<=64/\((L z)[0]?=some 122\/(L z)[0]?=some 114)):=by
 unfold EW Me;rw[B4];by_cases hs:(L s).length<=64
 ·rw[Af (by omega:¬((L s).length:Int)>64),Ad,Ad];obtain⟨l,t1,t2,t3,t4⟩:=sG s hs;rw[t1,t2];simp only[Aa];obtain⟨z,v,h1,h2,rfl,h3,h4⟩:=iZ (body:=λq:ByteArray×Int=>Fo l q.1 q.2) (body':=λq:List Int×Int=>JA l q.1 q.2) (λv i=>(Fe v,i)) (λv i=>(v,i)) l.length (λi v=>v.length<=1+33*i/\(L<|Fe v)[0]?=some 122) (λz v=>z=Fe v/\v.length<=4000/\(L<|Fe v)[0]?=some 122)
   (λv i hi hv=>by
    have hg:l[i]?=some l[i]:=Ab hi;have ht:=t4 _<|Ax hi;refine .inl ?_;simp only[Fo,JA,I7,Ac hi,Ai,Au,hg,Aa]
    have b:∀(a:ByteArray) (m:List Int),(L a).length<=4000->m.length<=2->Ie a (Fe m)=some (a++Fe m):=λa m h1 h2=>FR _ _ (by rw[Oo];omega)
    have h0:∀m:List Int,(L<|Fe<|v++m)[0]?=some 122:=λm=>by
     rw[VT,Ck]
     ·exact hv.2
     grind
    rcases ht with⟨x1,x2,x3,x4⟩|⟨x1,x2,x3,x4,x5⟩
    ·rw[x1];simp only[show((0:Int)==0)=true from rfl,Ai,show decide ((0:Int)>0)=false from rfl,Ad];rw[b _ _ (by rw[Oo];omega) (by simp),Bl<|by grind];simp only[Aa];rw[FR _ _ (by rw[DN,Ak,Oo,Oo];grind),ACx,Bl (by rw[kS];grind)];simp only[Aa];rw[ad1<|by omega];refine⟨v++([IntKind.u8.wrap<|FL l[i].Text]++tL l[i].Text),?_,by simp,?_,h0 _⟩
     ·congr 4;apply JL;rw[DN,DN,VT,VT,AAW,AE]
     simp only[Ak,BG,kS];omega
    have hb:(l[i].Back==0)=false:=by simp;omega
    rw[hb,Ac (by omega:l[i].Back>0)];simp only[Ai,Ad];rw[b _ _ (by rw[Oo];omega) (by simp),Bl<|by grind];simp only[Aa];rw[ad1<|by omega];refine⟨v++ [IntKind.u8.wrap<|ad 128 l[i].Size,IntKind.u8.wrap l[i].Back],?_,rfl,?_,h0 _⟩
    ·congr 4;apply JL;rw[DN,VT]
    grind)
   (λv hv=>⟨_,_,by simp only[Fo,I7,ER,HW,Ad],by simp only[JA,I7,ER,HW,Ad],rfl,by omega,hv.2⟩) (s:=[122]) ⟨by simp,by rw[Mo];rfl⟩
  have e0:(Fe [122],(0:Int))=(bs [122],(0:Int)):=by rfl
  simp only[e0]at h1;rw[h1,h2];simp only[Aa];rw[B4,Oo,Bk,Cz (by omega)<|by omega];by_cases hc:((L s).length:Int)+1<=(v.length:Int)
  ·rw[Ac hc,Ai,FR _ _ (by rw[Es];grind)];refine⟨_,true,rfl,rfl,by simp,λ_=>⟨hs,.inr ?_⟩⟩;rfl
  rw[Af hc,Ad]
  grind
 rw[Ac (by omega:((L s).length:Int)>64),Ai,Ai];simp
def Sq (t:AX):Prop:=(t.Back=0/\t.Size=0/\1<=(L t.Text).length/\(L t.Text).length<=31)\/(t.Back≠0/\1<=t.Size/\t.Size<=31/\L t.Text=[])
theorem n8:Qo=FZ:=by
 funext l;unfold Qo FZ;have hb:NK l=DY l:=by
  funext out y;unfold NK DY
  cases decide (y<ln l)with
  |false=>rfl
  |true=>
   cases gi l y with
   |none=>rfl
   |some t=>
    simp only[Aa,cV,RZ,ACx]
    have h2:(λs:List Int×Int=>Rz t s.1 s.2)=λs:List Int×Int=>DX t s.1 s.2:=rfl
    grind
 rw[hb]
theorem RT (l:List AX) (hl:l.length<=1048576):∃p ok,FZ l=some (p,ok)/\(ok=true->∀t∈l,Sq t):=by
 unfold FZ;obtain⟨r,h1,h2⟩:=AJ (body:=λq:List Int×Int=>DY l q.1 q.2) (λ(o:List Int) i=>(o,i)) l.length (λi o=>o.length<=64/\∀(j:Nat) t,j<i->l[j]?=some t->Sq t) (λr=>(∃o,r= .inl o/\∀t∈l,Sq t)\/r= .inr (bs [],false))
  (λo i hi ho=>by
   have hg:l[i]?=some l[i]:=Ab hi;simp only[DY,DF hi,Au,hg,Aa,RZ];have good:∀(o':List Int),Sq l[i]->(∃s',(some (.inl o':(List Int)⊕(List Int×Int)⊕(List Int)⊕(ByteArray×Bool))).bind (Sum.elim (λj1=>cond (decide<|(ln j1)>64) (some<|.inr<|.inr (bs [],false))<|some<|.inl (j1,ad (i:Int) 1)) some)=some (.inl (s',((i+1:Nat):Int)))/\s'.length<=64/\∀(j:Nat) t,j<i+1->l[j]?=some t->Sq t)\/∃b,(some (.inl o':(List Int)⊕(List Int×Int)⊕(List Int)⊕(ByteArray×Bool))).bind (Sum.elim (λj1=>cond (decide<|(ln j1)>64) (some<|.inr<|.inr (bs [],false))<|some<|.inl (j1,ad (i:Int) 1)) some)=some (.inr b)/\((∃o,b= .inl o/\∀t∈l,Sq t)\/b= .inr (bs [],false)):=by
    intro o' ht;simp only[Aa,Cq];by_cases h64:o'.length<=64
    ·rw[Af (by rw[Bk];omega),Ad,ad1]
     grind
    rw[Ac (by rw[Bk];omega),Ai];simp
   by_cases hb:l[i].Back=0
   ·rw[hb];rw[B4];by_cases hx:(1<=(L l[i].Text).length/\(L l[i].Text).length<=31)/\l[i].Size=0
    ·obtain⟨⟨c,d⟩,a⟩:=hx;rw[Ac (by omega:(1:Int)<=((L l[i].Text).length:Int)),Ac (by omega:((L l[i].Text).length:Int)<=31),a];rw[Bl (by rw[kS];omega)];exact good _<|.inl ⟨hb,a,c,d⟩
    grind
   have hb':(l[i].Back==0)=false:=by simpa using hb
   rw[hb'];rw[Bk,RX,Es];by_cases hx:(1<=l[i].Back/\l[i].Back<=(o.length:Int))/\(1<=l[i].Size/\l[i].Size<=31)/\L l[i].Text=[]
   ·obtain⟨⟨y1,y2⟩,⟨y3,y4⟩,y5⟩:=hx;rw[Ac y1,Ac y2,Ac y3,Ac y4,Ac y5];obtain⟨o',q1,q2⟩:=AJ (body:=λq:List Int×Int=>DX l[i] q.1 q.2) (λ(o:List Int) k=>(o,k)) l[i].Size.toNat (λk u=>u.length=o.length+k) (λ_=>True)
     (λu k hk hu=>by
      simp only[DX];rw[cT,Co (by rw[Bk];omega) (by rw[Bk];omega),Bk,Lo (by omega) (by omega),Aa,Bl (by grind),ad1]
      grind)
     (λu hu=>⟨u,by simp only[DX];rw[cF],trivial⟩) (s:=o) (by omega)
    rw[q1];exact good _<|.inr ⟨hb,y3,y4,y5⟩
   grind)
  (λo ho=>⟨_,by simp only[DY,Du],.inl ⟨o,rfl,λt ht=>by
   obtain⟨j,hj,rfl⟩:=A4 ht
   simp_all⟩⟩) (s:=[]) ⟨by simp,λj t hj=>by omega⟩
 grind
theorem Zi (c:UInt8):IntKind.i64.wrap (c.toNat:Int)=(c.toNat:Int):=OO (by omega) (by have:=c.toNat_lt;omega)
theorem gM (rem:ByteArray) (a:List AX) (h:0<(L rem).length) (ho:a.length<=1048576) (hr:(L rem).length<=1048576):
  D9 rem a=some (if 128<=(L rem)[0].toNat/\2<=(L rem).length then .inl (rem.extract 2 (L rem).length,a++ [AX.mk (((L rem)[1]?.getD 0).toNat:Int) (((L rem)[0].toNat:Int)-128) (bs [])])
   else if(L rem)[0].toNat<128/\(L rem)[0].toNat<(L rem).length then .inl (rem.extract (1+(L rem)[0].toNat) (L rem).length,a++ [AX.mk 0 0 (rem.extract 1 (1+(L rem)[0].toNat))])
   else .inr (.inr ([],false))):=by
 have d:=(L rem)[0].toNat_lt;have b:seq rem (bs [])=false:=by
  rw[RX,Es,Gj]
  grind
 have c:∀x:AX,ap 32 a [x]=some (a++ [x]):=λx=>Bl<|by grind
 unfold D9;rw[b];have s0:sx rem 0=some ((L rem)[0].toNat:Int):=Fc rem (i:=0) h;simp only[Cm,Ai,s0,Aa,Zi,B4,c];have c0:ad 1 ((L rem)[0].toNat:Int)=((1+(L rem)[0].toNat:Nat):Int):=by rw[Cz];omega
 rw[c0];by_cases h1:128<=(L rem)[0].toNat
 ·rw[Ac (by omega:((L rem)[0].toNat:Int)>=128),Af (by omega:¬((L rem)[0].toNat:Int)<128)];simp only[Ai,Ad,Aa];by_cases h2:2<=(L rem).length
  ·have s1:sx rem 1=some ((L rem)[1].toNat:Int):=Fc rem (i:=1) (by omega);have s2:sub rem 2 ((L rem).length:Int)=some (rem.extract 2 (L rem).length):=Fd rem (i:=2) h2<|Az _;rw[s1,s2,Co];simp only[Aa,Zi]
   grind
  grind
 rw[Af (by omega:¬((L rem)[0].toNat:Int)>=128),Ac (by omega:((L rem)[0].toNat:Int)<128),AM λe=>h1 e.1];simp only[Ai,Ad,Aa];by_cases h2:(L rem)[0].toNat<(L rem).length
 ·have s1:sub rem 1 ((1+(L rem)[0].toNat:Nat):Int)=some (rem.extract 1<|1+(L rem)[0].toNat):=Fd rem (i:=1) (by omega) (by omega);have s2:sub rem ((1+(L rem)[0].toNat:Nat):Int) ((L rem).length:Int)=some (rem.extract (1+(L rem)[0].toNat) (L rem).length):=Fd rem (by omega) (Az _)
  grind
 grind
theorem ZQ (rem:ByteArray) (a:List AX) (h:(L rem).length=0):D9 rem a=some (.inr (.inl a)):=by
 have b:seq rem (bs [])=true:=by
  rw[RX,Es,A5]
  grind
 unfold D9;rw[b];rfl
theorem gL (t:ByteArray) (b:List AX) (a:Nat) (h:a<(L t).length) (ho:b.length<=1048576) (hr:(L t).length<=1048576):
  BX t b (a:Int)=some (if 128<(L t)[a].toNat then(if a+2<=(L t).length then .inl (b++ [AX.mk (((L t)[a+1]?.getD 0).toNat:Int) (((L t)[a].toNat:Int)-128) (bs [])],((a+2:Nat):Int))else .inr (.inr (b,false)))
   else if a+1+(L t)[a].toNat<=(L t).length then .inl (b++ [AX.mk 0 0 (t.extract (a+1) (a+1+(L t)[a].toNat))],((a+1+(L t)[a].toNat:Nat):Int))
   else .inr (.inr (b,false))):=by
 have d:=(L t)[a].toNat_lt
 have c:∀x:AX,ap 32 b [x]=some (b++ [x]):=λx=>Bl<|by grind
 have c2:ad (a:Int) 2=((a+2:Nat):Int):=by rw[Cz];omega
 have c3:ad ((a+1:Nat):Int) ((L t)[a].toNat:Int)=((a+1+(L t)[a].toNat:Nat):Int):=by rw[Cz];omega
 unfold BX;rw[B4,cT,Fc t h];simp only[Aa,Zi,c];rw[c2,ad1,c3];by_cases h1:128<(L t)[a].toNat
 ·rw[cT,AG h1];by_cases h2:a+2<=(L t).length
  ·rw[cF,AG h2,Fc t (by omega:a+1<(L t).length),Co];simp only[Aa,Zi]
   grind
  grind
 rw[cF,AM h1];by_cases h2:a+1+(L t)[a].toNat<=(L t).length
 ·rw[Af (by omega:¬((a+1+(L t)[a].toNat:Nat):Int)>((L t).length:Int)),Ad,AG h2,Fd t (by omega) h2];rfl
 grind
theorem ZP (t:ByteArray) (b:List AX) (a:Nat) (h:(L t).length<=a):BX t b (a:Int)=some (.inr (.inl b)):=by
 unfold BX;rw[B4,cF]
theorem AAQ (rem:ByteArray) (a:List AX) (h:a.length+(L rem).length<=1048576):∃r,An (λq:ByteArray×List AX=>D9 q.1 q.2) (rem,a)=some r/\((∃l,r= .inl l/\l.length<=1048576/\∀t∈a,t∈l)\/r= .inr ([],false)):=by
 obtain⟨r,h1,_,h2⟩:=TO (body:=λq:ByteArray×List AX=>D9 q.1 q.2) (body':=λq:ByteArray×List AX=>D9 q.1 q.2) (λq=>(L q.1).length) (λq=>q.2.length+(L q.1).length<=1048576/\∀t∈a,t∈q.2) (λr=>(∃l,r= .inl l/\l.length<=1048576/\∀t∈a,t∈l)\/r= .inr ([],false))
  (by
   rintro⟨rem,o⟩ ⟨hl,ho⟩;simp only at hl ho;simp only
   rcases U7 (L rem).length with h0|h0
   ·rw[ZQ rem o h0]
    grind
   rw[gM rem o h0 (by omega)<|by omega];split
   ·refine .inl ⟨_,rfl,rfl,⟨?_,λt ht=>Bn _<|ho t ht⟩,?_⟩
    ·simp only[Ak,BG,Ib,B3,Do];omega
    simp only[Ib,B3,Do];omega
   split
   ·refine .inl ⟨_,rfl,rfl,⟨?_,λt ht=>Bn _<|ho t ht⟩,?_⟩
    ·simp only[Ak,BG,Ib,B3,Do];omega
    simp only[Ib,B3,Do];omega
   simp) _ (rem,a) (Az _) ⟨h,λt ht=>ht⟩
 grind
theorem AAP (t:ByteArray) (b:List AX) (a:Nat) (ha:a<=(L t).length) (h:b.length<=a) (hr:(L t).length<=1048576):∃r,An (λq:List AX×Int=>BX t q.1 q.2) (b,(a:Int))=some r/\((∃l,r= .inl l/\l.length<=1048576/\∀x∈b,x∈l)\/∃l,r= .inr (l,false)/\l.length<=1048576):=by
 obtain⟨r,h1,_,h2⟩:=TO (body:=λq:List AX×Int=>BX t q.1 q.2) (body':=λq:List AX×Int=>BX t q.1 q.2) (λq=>(L t).length-q.2.toNat) (λq=>∃a:Nat,q.2=(a:Int)/\a<=(L t).length/\q.1.length<=a/\∀x∈b,x∈q.1) (λr=>(∃l,r= .inl l/\l.length<=1048576/\∀x∈b,x∈l)\/∃l,r= .inr (l,false)/\l.length<=1048576)
  (by
   rintro⟨o,at_⟩ ⟨a,ha,hl,hb,ho⟩;simp only at ha hb ho;subst ha;simp only
   rcases Ej a (L t).length with h0|h0
   ·rw[gL t o a h0 (by omega) hr];split
    ·split
     ·refine .inl ⟨_,rfl,rfl,⟨a+2,rfl,by omega,by grind,λt ht=>Bn _<|ho t ht⟩,by simp only;omega⟩
     grind
    split
    ·refine .inl ⟨_,rfl,rfl,⟨_,rfl,by assumption,by grind,λt ht=>Bn _<|ho t ht⟩,by simp only;omega⟩
    grind
   rw[ZP t o a h0]
   grind) _ (b,(a:Int)) (Az _) ⟨a,rfl,ha,h,λt ht=>ht⟩
 grind
theorem AAO (t:ByteArray) (hr:(L t).length<=1048576):∀(n a:Nat) (rem:ByteArray) (b:List AX),(L t).length-a<=n->a<=(L t).length->L rem=(L t).drop a->b.length<=a->
  ∃ri rs,An (λq:ByteArray×List AX=>D9 q.1 q.2) (rem,b)=some ri/\An (λq:List AX×Int=>BX t q.1 q.2) (b,(a:Int))=some rs/\
   ((∃l,ri= .inl l/\rs= .inl l/\l.length<=1048576)\/((ri= .inr ([],false)\/∃l,ri= .inl l/\l.length<=1048576/\∃x∈l,¬Sq x)/\((∃l,rs= .inr (l,false)/\l.length<=1048576)\/∃l,rs= .inl l/\l.length<=1048576/\∃x∈l,¬Sq x))):=by
 intro n
 induction n with
 |zero=>
  intro a rem b h1 h2 h3 h4;have ha:a=(L t).length:=by omega
  have d:(L rem).length=0:=by rw[h3,ha];simp
  refine⟨_,_,by rw[Aw];simp only[ZQ rem b d],by rw[Aw];simp only[ZP t b a<|by omega],.inl ⟨b,rfl,rfl,by omega⟩⟩
 |succ n ih=>
  intro a rem b h1 h2 h3 h4
  rcases Ej a (L t).length with h0|h0
  ·have m:(L rem).length=(L t).length-a:=by rw[h3];simp
   have f:0<(L rem).length:=by omega
   have h:(L rem)[0]=(L t)[a]:=by grind
   have i:(L rem)[1]?.getD 0=(L t)[a+1]?.getD 0:=by grind
   have c:=gM rem b f (by omega) (by omega);have g:=gL t b a h0 (by omega) hr
   have e:∀k,L (rem.extract k (L rem).length)=(L t).drop (a+k):=λk=>by
    rw[Ib,h3,C9,AI]
    grind
   rw[h,i]at c
   rcases VC (L t)[a].toNat 128 with hc|hc|hc
   ·rw[AM<|by omega]at c;by_cases hk:a+1+(L t)[a].toNat<=(L t).length
    ·obtain⟨ri,rs,q1,q2,q3⟩:=ih (a+1+(L t)[a].toNat) (rem.extract (1+(L t)[a].toNat) (L rem).length) (b++ [AX.mk 0 0<|t.extract (a+1)<|a+1+(L t)[a].toNat]) (by omega) hk (by grind) (by grind);have etx:rem.extract 1 (1+(L t)[a].toNat)=t.extract (a+1) (a+1+(L t)[a].toNat):=by
      apply JL;rw[Ib,Ib,h3,C9];simp
     refine⟨ri,rs,?_,?_,q3⟩
     ·rw[Aw]
      grind
     rw[Aw]
     grind
    exact⟨_,_,by rw[Aw];grind,by rw[Aw];grind,.inr ⟨.inl rfl,.inl ⟨b,rfl,by omega⟩⟩⟩
   ·
    have hI:∃ri,An (λq:ByteArray×List AX=>D9 q.1 q.2) (rem,b)=some ri/\(ri= .inr ([],false)\/∃l,ri= .inl l/\l.length<=1048576/\∃x∈l,¬Sq x):=by
     by_cases hk:2<=(L rem).length
     ·obtain⟨r,q1,q2⟩:=AAQ (rem.extract 2 (L rem).length) (b++ [AX.mk (((L t)[a+1]?.getD 0).toNat:Int) (((L t)[a].toNat:Int)-128)<|bs []]) (by grind);refine⟨r,by rw[Aw];grind,?_⟩
      rcases q2 with⟨l,rfl,q3,q4⟩|rfl
      ·refine .inr ⟨l,rfl,q3,_,q4 _<|BF _<|Bj.2 rfl,?_⟩;intro hk
       rcases hk with⟨_,_,k3,_⟩|⟨_,k2,_⟩
       ·simp only[Es,El]at k3;omega
       grind
      exact .inl rfl
     exact⟨_,by rw[Aw];grind,.inl rfl⟩
    have hS:∃rs,An (λq:List AX×Int=>BX t q.1 q.2) (b,(a:Int))=some rs/\((∃l,rs= .inr (l,false)/\l.length<=1048576)\/∃l,rs= .inl l/\l.length<=1048576/\∃x∈l,¬Sq x):=by
     by_cases hk:a+1+(L t)[a].toNat<=(L t).length
     ·obtain⟨r,q1,q2⟩:=AAP t (b++ [AX.mk 0 0<|t.extract (a+1)<|a+1+(L t)[a].toNat]) (a+1+(L t)[a].toNat) hk (by grind) hr;refine⟨r,by rw[Aw];grind,?_⟩
      rcases q2 with⟨l,rfl,q3,q4⟩|⟨l,rfl,q3⟩
      ·refine .inr ⟨l,rfl,q3,_,q4 _<|BF _<|Bj.2 rfl,?_⟩;intro j
       rcases j with⟨_,_,_,k4⟩|⟨k1,_⟩
       ·simp only[Ib,B3,Do]at k4;omega
       exact k1 rfl
      grind
     exact⟨_,by rw[Aw];grind,.inl ⟨b,rfl,by omega⟩⟩
    obtain⟨ri,q1,q2⟩:=hI;obtain⟨rs,q3,q4⟩:=hS;exact⟨ri,rs,q1,q3,.inr ⟨q2,q4⟩⟩
   by_cases hk:a+2<=(L t).length
   ·obtain⟨ri,rs,q1,q2,q3⟩:=ih (a+2) (rem.extract 2 (L rem).length) (b++ [AX.mk (((L t)[a+1]?.getD 0).toNat:Int) (((L t)[a].toNat:Int)-128)<|bs []]) (by omega) hk (e 2) (by grind);exact⟨ri,rs,by rw[Aw];grind,by rw[Aw];grind,q3⟩
   exact⟨_,_,by rw[Aw];grind,by rw[Aw];grind,.inr ⟨.inl rfl,.inl ⟨b,rfl,by omega⟩⟩⟩
  have ha:a=(L t).length:=by omega
  have d:(L rem).length=0:=by rw[h3,ha];simp
  refine⟨_,_,by rw[Aw];simp only[ZQ rem b d],by rw[Aw];simp only[ZP t b a<|by omega],.inl ⟨b,rfl,rfl,by omega⟩⟩
theorem ABu (t:ByteArray) (hr:(L t).length<=1048576):∃li oi ls os pi ki ps ks,Rl t=some (li,oi)/\Kp t=some (ls,os)/\Qo li=some (pi,ki)/\FZ ls=some (ps,ks)/\((oi=os/\pi=ps/\ki=ks)\/((oi=false\/ki=false)/\(os=false\/ks=false))):=by
 obtain⟨ri,rs,q1,q2,q3⟩:=AAO t hr ((L t).length) 0 t [] (by omega) (by omega) (by simp) (by simp);have e0:(([]:List AX),((0:Nat):Int))=([],0):=rfl;simp only[e0]at q2;unfold Rl Kp;rw[q1,q2,n8];have none:∀l:List AX,l.length<=1048576->(∃x∈l,¬Sq x)->∃p,FZ l=some (p,false):=by
  rintro l hl ⟨x,hx,hn⟩;obtain⟨p,ok,h1,h2⟩:=RT l hl
  cases ok with
  |false=>exact⟨p,h1⟩
  |true=>grind
 rcases q3 with⟨l,rfl,rfl,hl⟩|⟨hi,hs⟩
 ·obtain⟨p,ok,h1,_⟩:=RT l hl;exact⟨l,true,l,true,p,ok,p,ok,rfl,rfl,h1,h1,.inl ⟨rfl,rfl,rfl⟩⟩
 have hI:∃li oi pi ki,(some ri).bind (Sum.elim (λv1=>some (v1,true)) some)=some (li,oi)/\FZ li=some (pi,ki)/\(oi=false\/ki=false):=by
  rcases hi with rfl|⟨l,rfl,hl,hb⟩
  ·obtain⟨p,ok,h1,_⟩:=RT [] (by simp)
   grind
  obtain⟨p,h1⟩:=none l hl hb;simp_all
 have hS:∃li oi pi ki,(some rs).bind (Sum.elim (λv1=>some (v1,true)) some)=some (li,oi)/\FZ li=some (pi,ki)/\(oi=false\/ki=false):=by
  rcases hs with⟨l,rfl,hl⟩|⟨l,rfl,hl,hb⟩
  ·obtain⟨p,ok,h1,_⟩:=RT l hl
   grind
  grind
 obtain⟨li,oi,pi,ki,a1,a2,a3⟩:=hI;obtain⟨ls,os,ps,ks,b1,b2,b3⟩:=hS;exact⟨li,oi,ls,os,pi,ki,ps,ks,a1,b1,a2,b2,.inr ⟨a3,b3⟩⟩
theorem UP (t:ByteArray) (hr:(L t).length<=1048576):∃u ok,Gu t=some (u,ok)/\NI t=some (u,ok)/\(ok=false->u=bs [])/\(ok=true->(L u).length<=64):=by
 unfold Gu NI;rw[B4,RX,Es];by_cases h0:L t=[]
 ·simp_all
 have a:0<(L t).length:=by grind
 have e1:(((L t).length:Int)==0)=false:=by simp;exact h0
 rw[e1,Af h0,Ad,Ad];have s1:sub t 1 ((L t).length:Int)=some (t.extract 1 (L t).length):=Fd t (i:=1) (by omega)<|Az _;have s0:sx t 0=some ((L t)[0].toNat:Int):=Fc t (i:=0) a;rw[s1,s0];simp only[Aa];generalize hx:t.extract 1 (L t).length=x;have b:(L x).length<=1048576:=by rw[<-hx,Ib];simp;omega
 obtain⟨li,oi,ls,os,pi,ki,ps,ks,a1,a2,a3,a4,a5⟩:=ABu x b;rw[a1,a2];simp only[Aa];rw[a3,a4];simp only[Aa];have back:∀j:ByteArray,∃u ok,((EW j).bind λv3=>(cond (!v3.2) (some true) (some<|!(seq v3.1 t)):Option Bool).bind λj2=>cond j2 (some (bs [],false)) (some (j,true)):Option (ByteArray×Bool))=some (u,ok)/\
   ((Me j).bind λv3=>(cond (!v3.2) (some true) (some<|!(seq v3.1 t)):Option Bool).bind λj2=>cond j2 (some (bs [],false)) (some (j,true)):Option (ByteArray×Bool))=some (u,ok)/\(ok=false->u=bs [])/\(ok=true->(L u).length<=64/\((L t)[0].toNat=122\/(L t)[0].toNat=114)):=by
  intro j;obtain⟨z,ok,p1,p2,p3,p4⟩:=YQ j;rw[p1,p2];simp only[Aa]
  cases ok with
  |false=>simp
  |true=>
   simp only[Al,Ad,Aa]
   cases hz:seq z t with
   |false=>simp
   |true=>
    have c:z=t:=by rw[Jo,A5]at hz;exact hz
    obtain⟨p5,p6⟩:=p4 rfl;refine⟨_,true,rfl,rfl,by simp,λ_=>⟨p5,?_⟩⟩;rw[c,Ab a]at p6
    rcases p6 with p6|p6
    ·simp_all
    simp_all
 by_cases h122:(L t)[0].toNat=122
 ·have c1:((((L t)[0].toNat:Nat):Int)==122)=true:=by simp[h122]
  have c2:((((L t)[0].toNat:Nat):Int) !=114)=true:=by simp[h122]
  rw[c1,c2];simp only[Ai]
  rcases a5 with⟨rfl,rfl,rfl⟩|⟨hi,hs⟩
  ·cases oi with
   |false=>simp
   |true=>
    cases ki with
    |false=>simp
    |true=>simp_all
  grind
 have c1:((((L t)[0].toNat:Nat):Int)==122)=false:=by simp;omega
 rw[c1];simp only[Ad,Aa,Cq];by_cases h114:(L t)[0].toNat=114
 ·simp_all
 have c2:((((L t)[0].toNat:Nat):Int) !=114)=true:=by simp;omega
 rw[c2];simp only[Ai];have nope:∀(j u:ByteArray) (ok:Bool),(ok=true->(L u).length<=64/\((L t)[0].toNat=122\/(L t)[0].toNat=114))->ok=false:=by grind
 obtain⟨u,ok,b1,b2,b3,b4⟩:=back x;have k1:=nope x u ok b4;subst k1;have k2:=b3 rfl;subst k2;refine⟨bs [],false,b1,?_,by simp,by simp⟩
 cases oi with
 |false=>rfl
 |true=>
  cases ki with
  |false=>rfl
  |true=>
   simp only[Al,Ad,Aa,Cq];obtain⟨u,ok,d1,d2,d3,d4⟩:=back pi
   grind
def VH (x:Br):Nat:=x.Kids.length
def ZD (x:Arena):Nat:=zl VH x.Knots
def JV (x:Store):Nat:=x.Vols.length+ZD x.Arena
def N4 (x:Device):Nat:=Ol x.Flash+JV x.Store
def Qi (x:Leaf):Nat:=bif x.Is==0 then 1 else 0
theorem ACt (l:List Leaf):(l.map Qi).sum<=l.length:=by
 induction l with
 |nil=>simp
 |cons x l ih=>
  have:Qi x<=1:=by unfold Qi;grind
  grind
theorem XT (b:Block) (h:b.Leaves.length<=1048576):IE b=some ((b.Leaves.map Qi).sum:Int):=by
 unfold IE;obtain⟨v,h1,rfl⟩:=AJ (body:=λs:Int×Int=>Ht b s.1 s.2) (λ(s:Int) i=>(s,i)) b.Leaves.length (λk s=>s=(((b.Leaves.take k).map Qi).sum:Nat)) (λv=>v=((b.Leaves.map Qi).sum:Nat))
  (λs k hk hs=>by
   have hx:b.Leaves[k]?=some b.Leaves[k]:=Ab hk;have e:=Su Qi b.Leaves k hk;have e2:=OX Qi b.Leaves<|k+1;have e3:=ACt b.Leaves;refine .inl ?_;simp only[Ht,DF hk,Au,hx,Aa];have e4:Qi b.Leaves[k]=bif b.Leaves[k].Is==0 then 1 else 0:=rfl
   cases hb:b.Leaves[k].Is==0 with
   |true=>
    rw[ad1,Cz]
    grind
   |false=>
    rw[ad1]
    grind)
  (λs hs=>⟨s,by simp only[Ht,Du],by grind⟩) (s:=0) (by simp)
 rw[h1];rfl
theorem XV (f:Flash) (hf:Kf f) (hn:nl f.Blocks<=1048576):∃v:Int,MK f=some v/\OH f=some v/\0<=v/\v<=nl f.Blocks:=by
 unfold MK OH;obtain⟨v,h1,h2,h3⟩:=MW (body:=λs:Int×Int=>MJ f s.1 s.2) (body':=λs:Int×Int=>Nc f s.1 s.2) (λ(s:Int) i=>(s,i)) (λ(s:Int) i=>(s,i)) f.Blocks.length (λi n=>0<=n/\n<=(((f.Blocks.take i).map λb=>b.Leaves.length).sum:Nat)) (λv=>0<=v/\v<=nl f.Blocks)
  (λn i hi hs=>by
   have hb:f.Blocks[i]?=some f.Blocks[i]:=Ab hi;have hm:f.Blocks[i]∈f.Blocks:=Ax _;have d:=Su (λb:Block=>b.Leaves.length) f.Blocks i hi;have g:=OX (λb:Block=>b.Leaves.length) f.Blocks<|i+1;unfold nl at hn;have h:=hf.1;have c:=hf.2 _ hm;have j:=ACt f.Blocks[i].Leaves;refine .inl ?_;simp only[MJ,Nc,DF hi,Au,hb,Aa,XT _ c];obtain⟨u,q1,rfl⟩:=AJ (body:=λs:Int×Int=>MI f (i:Int) s.1 s.2) (λ(s:Int) i=>(s,i)) f.Blocks[i].Leaves.length (λk s=>s=n+(bif f.Blocks[i].Bad then 0 else((f.Blocks[i].Leaves.take k).map Qi).sum:Nat)) (λv=>v=n+(bif f.Blocks[i].Bad then 0 else(f.Blocks[i].Leaves.map Qi).sum:Nat))
    (λs k hk hs=>by
     have hx:f.Blocks[i].Leaves[k]?=some f.Blocks[i].Leaves[k]:=Ab hk;have e:=Su Qi f.Blocks[i].Leaves k hk;have e2:=OX Qi f.Blocks[i].Leaves<|k+1;refine .inl ?_;simp only[MI,Au,hb,Aa,DF hk,hx]
     cases a:f.Blocks[i].Bad with
     |true=>
      rw[a]at hs;simp only[Al,Ad,Ai]at hs⊢;rw[ad1]
      grind
     |false=>
      rw[a]at hs;simp only[Cm,Ad,Ai]at hs⊢;have e4:Qi f.Blocks[i].Leaves[k]=bif f.Blocks[i].Leaves[k].Is==0 then 1 else 0:=rfl
      cases hb:f.Blocks[i].Leaves[k].Is==0 with
      |true=>
       rw[hb]at e4;simp only[Ai]at e4⊢;rw[ad1,Cz]
       grind
      |false=>
       rw[hb]at e4;simp only[Ad]at e4⊢;rw[ad1]
       grind)
    (λs hs=>⟨s,by simp only[MI,Au,hb,Aa,Du],by grind⟩) (s:=n) (by grind)
   rw[q1];simp only[Aa]
   cases f.Blocks[i].Bad with
   |true=>
    simp only[Ai,Al,Ad];rw[ad1]
    grind
   |false=>
    simp only[Ai,Cm,Ad];rw[ad1,Cz]
    grind)
  (λn hs=>by
   rw[F7]at hs
   exact⟨n,by simp only[MJ,Du],by simp only[Nc,Du],hs⟩) (s:=0) (by simp)
 grind
end Go.TI
