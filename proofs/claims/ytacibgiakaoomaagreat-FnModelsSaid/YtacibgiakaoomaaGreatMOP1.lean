/- What an ask makes of a drawn model. No condition; no program is in sight. -/
import Derived.Test.YtacibgiakaoomaaGreatMOP0
set_option linter.unusedVariables false
set_option linter.unusedSimpArgs false
namespace Go.TI
open Go
def cn (n:Nat) (p:Nat->Bool):Nat:=((List.range n).filter p).length
theorem cD (n:Nat) (p:Nat->Bool):cn (n+1) p=cn n p+(bif p n then 1 else 0):=by grind [DZ,cn]
theorem nJ (n:Nat) (p:Nat->Bool):cn n p<=n:=by
 have:=Bz p<|List.range n;rw[EW]at this;exact this
theorem VC {body:Int×Int->Option ((Int×Int)⊕Int)} (n:Nat) (p:Nat->Bool) (n0:Int) (h0:0<=n0) (hM:(n:Int)+n0<=1152921504606846976) (hb:∀(m:Int) (i:Nat),i<n->body (m,(i:Int))=(bif p i then some (.inl (ad m 1,ad (i:Int) 1))else some (.inl (m,ad (i:Int) 1)))) (he:∀m,body (m,(n:Int))=some (.inr m)):Ai body (n0,0)=some (n0+(cn n p:Int)):=by
 obtain⟨b,h1,rfl⟩:=AG (body:=body) (λ(m:Int) i=>(m,i)) n (λi m=>m=n0+(cn i p:Int)) (λm=>m=n0+(cn n p:Int))
  (λm i hi hm=>by
   have hc:=nJ i p;refine .inl ?_;rw[hb m i hi]
   cases hp:p i with
   |true=>
    rw[BN,ad1]
    grind [cD]
   |false=>
    rw[ad1]
    grind [cD])
  (λm hm=>⟨m,he m,hm⟩) (s:=n0) (by simp[cn])
 exact h1
theorem V0 {γ:Type} {body:List γ×Int->Option ((List γ×Int)⊕List γ)} (by_:Nat) (n:Nat) (p:Nat->Bool) (g:Nat->γ) (hM:n*by_<=140737488355328) (hn:n<=1152921504606846976) (hb:∀(u:List γ) (i:Nat),i<n->body (u,(i:Int))=(bif p i then((ap by_ u [g i]).bind λc=>some (.inl (c,ad (i:Int) 1)))else some (.inl (u,ad (i:Int) 1)))) (he:∀u,body (u,(n:Int))=some (.inr u)):Ai body ([],0)=some (((List.range n).filter p).map g):=by
 obtain⟨b,h1,rfl⟩:=AG (body:=body) (λ(u:List γ) i=>(u,i)) n (λi u=>u=((List.range i).filter p).map g) (λu=>u=((List.range n).filter p).map g)
  (λu i hi hu=>by
   refine .inl ?_;rw[hb u i hi]
   cases hp:p i with
   |true=>
    have:(u.length+ [g i].length)*by_<=n*by_:=Nat.mul_le_mul_right _<|by grind
    grind [B5,ad1,DZ]
   |false=>grind [ad1,DZ])
  (λu hu=>⟨u,he u,hu⟩) (s:=[]) (by simp)
 exact h1
def Xs (c:Int) (r:List Ak):Nat->Option Nat
 |0=>none
 |n+1=>bif H9 c (r[n]?.getD WK)then some n else Xs c r n
theorem Sh (c:Int) (r:List Ak):∀n,n<=r.length->Mu c r n (Xs c r n)
 |0,_=>λk y hk=>by omega
 |n+1,hn=>by
  have hg:r[n]?=some r[n]:=Ab (by omega);have ih:=Sh c r n (by omega);unfold Xs;rw[hg,CL]
  cases hi:H9 c r[n]with
  |true=>exact⟨by omega,⟨_,hg,hi⟩,λk y h1 h2=>by omega⟩
  |false=>
   cases ht:Xs c r n with
   |none=>
    rw[ht]at ih;intro k y hk hy;by_cases e:k=n
    ·grind
    exact ih k y (by omega) hy
   |some j=>
    rw[ht]at ih;obtain⟨h1,h2,h3⟩:=ih;refine⟨by omega,h2,λk y hj hk hy=>?_⟩
    grind
def EV (a:Int) (y:Ak):Bool:=y.Page.Kind==2&&decide (y.Page.Tx>=a)
def bN (r:List Ak) (a:List Bool) (c:Int):List Bool:=match Xs c r r.length with
 |some i=>a.set i true
 |none=>a
variable {r r' m:List Ak} {f g:Flash} {y:Ak} {t c:Int} {α β:Type} {k n i:Nat} {b:Block} {d:A0} {P:Int->Prop} {p:Page} {texts:List ByteArray} {x:Leaf} {s:Bl} {a:List Bl} {l:List α}
theorem Vr (r:List Ak) (b:List Int) (hr:r.length<=1048576) (hc:b[k]?=some c) (a:List Bool) (ho:a.length=r.length):∀n,n<=r.length->
  Ai (λs:List Bool×Int=>Fk r b (k:Int) s.1 s.2) (a,(n:Int)-1)=some (match Xs c r n with|some i=>a.set i true|none=>a)
 |0,_=>by
  rw[Aw];rfl
 |n+1,hn=>by
  have hg:r[n]?=some r[n]:=Ab (by omega);have d:a[n]?=some a[n]:=Ab (by omega);have e:((n+1:Nat):Int)-1=(n:Int):=by omega
  have ht:Xs c r (n+1)=bif H9 c r[n]then some n else Xs c r n:=by
   rw[Xs,hg,CL]
  have hj:(bif r[n].Page.Kind==1 then some (r[n].Page.Tx==c)else some false)=some (H9 c r[n]):=by grind [H9]
  have hb:Fk r b (k:Int) a (n:Int)=some (bif H9 c r[n]then .inl (a.set n true,-2)else .inl (a,(n:Int)-1)):=by
   simp only[Fk]
   grind [Ar,BH,Ea]
  rw[e,Aw];simp only[hb,ht]
  cases H9 c r[n]with
  |true=>
   simp only[Ah];rw[Aw];rfl
  |false=>exact Vr r b hr hc a ho n<|by omega
theorem bM (r:List Ak) (a:List Bool) (c:Int):(bN r a c).length=a.length:=by grind [bN]
theorem lC (r:List Ak) (a:List Bool) (c:Int) (j:Nat):(bN r a c)[j]?=a[j]?.map (λb=>b||(Xs c r r.length==some j)):=by
 unfold bN
 cases Xs c r r.length with
 |none=>simp
 |some i=>simp_all;grind
theorem Yc (r:List Ak) (j:Nat):∀(a:List Int) (d:List Bool),(a.foldl (bN r) d)[j]?=d[j]?.map (λb=>b||a.any (λc=>Xs c r r.length==some j))
 |[],d=>by simp
 |c::a,d=>by
  simp only[List.foldl_cons,List.any_cons];rw[Yc r j a,lC];simp_all;grind
theorem Yr (r:List Ak):∀(a:List Int) (b:List Bool),(a.foldl (bN r) b).length=b.length
 |[],b=>rfl
 |c::a,b=>by simp only[List.foldl_cons];rw[Yr r a,bM]
theorem RN (r:List Ak) (d:List Int) (a:Int) (hr:r.length<=1048576) (hl:d.length<=16777216):Fp r d a=some (d.foldl (bN r) (r.map (EV a))):=by
 unfold Fp;have f:mk 1 false (ln r)=some (List.replicate r.length false):=by grind [Bu,mk]
 rw[f,Aa];obtain⟨u,h1,rfl⟩:=AG (body:=λs:List Bool×Int=>Fo r a s.1 s.2) (λ(u:List Bool) i=>(u,i)) r.length (λi u=>u=(r.take i).map (EV a)++List.replicate (r.length-i) false) (λu=>u=r.map (EV a))
  (λu i hi hu=>by
   have hg:r[i]?=some r[i]:=Ab hi;have e:r.length-i=(r.length-(i+1))+1:=by omega
   have et:(r.take<|i+1).map (EV a)=(r.take i).map (EV a)++ [EV a r[i]]:=by grind [Af]
   have g:gi u (i:Int)=some false:=by grind [l9]
   have h:∀b,si u (i:Int) b=(r.take i).map (EV a)++b::List.replicate (r.length-(i+1)) false:=λb=>by rw[hu];have:=kG ((r.take i).map<|EV a) false b<|List.replicate (r.length-(i+1)) false;grind
   simp only[Fo,FN hi];rw[Ar,hg,Aa,g]
   grind [ad1,EV])
  (λu hu=>⟨u,by simp[Fe,Fo],by rw[hu];simp⟩) (s:=List.replicate r.length false) (by simp)
 rw[h1,Aa];have h2:=LU (body:=λs:List Bool×Int=>Fl r d s.1 s.2) (λ(u:List Bool) i=>(u,i)) d (λu _ c=>(.inl (bN r u c):List Bool⊕List Bool)) (λu=>u) (λ_ u=>u.length=r.length)
  (λu i c hc hu=>by
   have hi:=(Ae.1 hc).1;refine⟨?_,λu' hu'=>by grind [bM]⟩;simp only[Fl,FN hi];rw[show ln r=(r.length:Int)from rfl,BH,Vr r d hr hc u hu r.length<|A5 _,Aa,ad1]
   rfl)
  (λu hu=>by simp[Fe,Fl]) (s:=r.map<|EV a) (by simp)
 rw[h2,Aa];have:∀(l:List Int) (i:Nat) (u:List Bool),Mw (λu _ c=>(.inl (bN r u c):List Bool⊕List Bool)) (λu=>u) l i u=l.foldl (bN r) u:=by
  intro l
  induction l with
  |nil=>intro i u;rfl
  |cons c l ih=>intro i u;exact ih _ _
 rw[this]
def bk (r:List Ak) (b:Int) (j:Nat):Bool:=(r[j]?.getD WK).Block==b
theorem gI (r:List Ak) (nd:List Bool) (b:Int) (hr:r.length<=1048576) (hn:nd.length=r.length):N1 r nd b=some ((cn r.length (λj=>nd[j]?.getD false&&bk r b j):Nat):Int):=by
 unfold N1
 rw[VC (body:=λs:Int×Int=>J6 r nd b s.1 s.2) r.length (λj=>nd[j]?.getD false&&bk r b j) 0 (by omega) (by omega)
  (λm i hi=>by simp_all [Ar,FN,J6,bk];grind)
  (λm=>by simp[Fe,J6])]
 simp
theorem iW (x:Block) (hl:x.Leaves.length<=1048576):∃n:Int,KY x=some n/\Lw x=some (!decide (n<ln x.Leaves)):=by
 have a:∀l:List Leaf,(cn l.length (λj=>(l[j]?.getD<|Leaf.mk 1<|bs []).Is==0)=l.length↔l.zipIdx.all (λz=>z.1.Is==0)=true):=by
  intro l;rw[List.all_eq_true];constructor
  ·grind [List.length_filter_eq_length_iff,cn]
  intro h;unfold cn;have:((List.range l.length).filter λj=>(l[j]?.getD<|Leaf.mk 1<|bs []).Is==0).length=(List.range l.length).length:=by
   refine List.length_filter_eq_length_iff.2 λi hi=>?_
   have hi:=Uz.1 hi;rw[Ab hi,CL];exact h (l[i],i)<|List.mem_zipIdx_iff_getElem?.2<|Ab hi
  grind
 refine⟨(cn x.Leaves.length (λj=>(x.Leaves[j]?.getD<|Leaf.mk 1<|bs []).Is==0):Nat),?_,?_⟩
 ·unfold KY
  rw[VC (body:=λq:Int×Int=>F9 x q.1 q.2) x.Leaves.length (λj=>(x.Leaves[j]?.getD<|Leaf.mk 1<|bs []).Is==0) 0 (by omega) (by omega)
   (λm i hi=>by simp_all [Ar,FN,F9])
   (λm=>by simp[Fe,F9])]
  simp
 unfold Lw
 rw[SU (body:=λs:Int=>Ga x s) x.Leaves (λ_ y=>y.Is==0) (.inr false) (.inl ()) (by omega)
  (λi y hy=>by
   have hi:=(Ae.1 hy).1;simp only[Ga,FN hi,Ar,hy,Aa]
   grind [ad1])
  (by simp[Fe,Ga])]
 have b:=nJ x.Leaves.length λj=>(x.Leaves[j]?.getD<|Leaf.mk 1<|bs []).Is==0
 cases hb:x.Leaves.zipIdx.all (λz=>z.1.Is==0)with
 |true=>grind [Bu]
 |false=>simp_all [Bu];grind
def Mi:List Leaf:=List.replicate 4<|Leaf.mk 0<|bs []
theorem Vt:mk 24 (Leaf.mk 0 (bs [])) 4=some Mi:=W8 (n:=4) (by omega)<|by omega
theorem FQ (f:Flash) (h:Uv f):FJ f=some f:=by
 unfold FJ;have:=P7 (body:=λs:Int×List Block=>Hj f s.1 s.2) f.Blocks (λx=>x)
  (λi x a hx ho=>by
   have b:=(Ae.1 hx).1;have h1:=h.1;have h2:=h.2 x<|Am hx;unfold Hj;simp only[FN b,Ar,hx,Aa]
   rw[B5 (by grind),Aa,B5 (by grind),Aa,ad1,Ao])
  (λa=>by simp[Fe,Hj])
 simp_all
def mR (f:Flash):Prop:=f.Blocks.length<=1048576/\∀b∈f.Blocks,b.Leaves.length=4
theorem mR.cap (h:mR f):Uv f:=⟨h.1,λb hb=>by rw[h.2 b hb];omega⟩
def nb (l:List Leaf):Nat:=(l.map Nl).sum
theorem bL (l:List Leaf) (i:Nat) (h:i<l.length):nb (l.take (i+1))=nb (l.take i)+Nl l[i]:=by grind [Af,nb]
theorem m8 (l:List Leaf) (i:Nat) (h:i<=l.length):nb (l.take i)<=i:=by grind [iY,nb]
theorem RO (x:Leaf):Nl x=if(x.Is==0)=true then 1 else 0:=by
 unfold Nl;simp
theorem Zz {x:Block} (f:Flash) (i:Nat) (hx:f.Blocks[i]?=some x) (hl:x.Leaves.length<=1048576):Ai (λs:Int×Int×Int=>Eq f (i:Int) s.1 s.2.1 s.2.2) (0,0,0)=some ((nb x.Leaves:Int),((x.Leaves.length-nb x.Leaves:Nat):Int)):=by
 obtain⟨b,h1,rfl⟩:=AG (body:=λs:Int×Int×Int=>Eq f (i:Int) s.1 s.2.1 s.2.2) (λ(s:Int×Int) k=>(s.1,s.2,k)) x.Leaves.length (λk s=>s=((nb (x.Leaves.take k):Int),((k-nb (x.Leaves.take k):Nat):Int))) (λs=>s=((nb x.Leaves:Int),((x.Leaves.length-nb x.Leaves:Nat):Int)))
  (λs k hk hs=>by
   subst hs;have hg:x.Leaves[k]?=some x.Leaves[k]:=Ab hk;have c:=m8 x.Leaves k (by omega);have a:=bL x.Leaves k hk;rw[RO]at a;refine .inl ?_;simp only[Eq,Ar,hx,Aa,FN hk,hg]
   grind [ad1])
  (λs hs=>⟨_,by simp only[Eq,Ar,hx,Aa,Fe];rfl,by grind⟩) (s:=(0,0)) (by simp[nb])
 exact h1
def LW (f:Flash) (i:Nat):Bool:=match f.Blocks[i]? with
 |some x=>!x.Bad&&decide (nb x.Leaves=x.Leaves.length)
 |none=>false
theorem iJ {x:Block} (f:Flash) (i:Nat) (hx:f.Blocks[i]?=some x) (hl:x.Leaves.length<=1048576):Ai (λs:Bool×Int=>DO f (i:Int) s.1 s.2) (!x.Bad,0)=some (LW f i):=by
 obtain⟨b,h1,rfl⟩:=AG (body:=λs:Bool×Int=>DO f (i:Int) s.1 s.2) (λ(s:Bool) k=>(s,k)) x.Leaves.length (λk s=>s=(!x.Bad&&decide (nb (x.Leaves.take k)=k))) (λs=>s=LW f i)
  (λs k hk hs=>by
   have hg:x.Leaves[k]?=some x.Leaves[k]:=Ab hk;have c:=m8 x.Leaves k (by omega);have a:=bL x.Leaves k hk;rw[RO]at a;refine .inl ?_;simp only[DO,Ar,hx,Aa,FN hk,hg]
   grind [ad1])
  (λs hs=>⟨_,by simp only[DO,Ar,hx,Aa,Fe];rfl,by grind [LW]⟩) (s:=!x.Bad) (by simp[nb])
 exact h1
def V3 (f:Flash):List Int:=((List.range f.Blocks.length).filter<|LW f).map λ(i:Nat)=>(i:Int)
theorem U5 (f:Flash) (h:Uv f):Jf f=some (V3 f)/\PF f=some (V3 f):=by
 obtain⟨a,b⟩:=h;constructor
 ·unfold Jf
  rw[V0 (body:=λs:List Int×Int=>EI f s.1 s.2) 8 f.Blocks.length (LW f) (λ(i:Nat)=>(i:Int)) (by omega) (by omega)
   (λu i hi=>by simp_all [Ar,FN,iJ,EI])
   (λu=>by simp[Fe,EI])]
  rfl
 unfold PF
 rw[V0 (body:=λs:List Int×Int=>Gw f s.1 s.2) 8 f.Blocks.length (LW f) (λ(i:Nat)=>(i:Int)) (by omega) (by omega)
  (λu i hi=>by
   have hg:f.Blocks[i]?=some f.Blocks[i]:=Ab hi
   grind [VF,Ar,nb,ln,Gw,LW])
  (λu=>by simp[Fe,Gw])]
 rfl
noncomputable def Vf (t:ByteArray):Option Page:=match D3 t with
 |some (p,true)=>some p
 |_=>none
noncomputable def pg (i k:Int) (x:Leaf):List Ak:=if x.Is=1 then(match Vf x.Text with
 |some p=>[Ak.mk i k p]
 |none=>[])else []
noncomputable def Rf (i:Int):Int->List Leaf->List Ak
 |_,[]=>[]
 |k,x::l=>pg i k x++Rf i (k+1) l
noncomputable def H0:Int->List Block->List Ak
 |_,[]=>[]
 |i,b::l=>Rf i 0 b.Leaves++H0 (i+1) l
theorem RM (i:Int):∀(k:Int) (l m:List Leaf),Rf i k (l++m)=Rf i k l++Rf i (k+l.length) m
 |k,[],m=>by simp[Rf]
 |k,x::l,m=>by
  rw[BV,Rf,RM i (k+1) l m,Rf,By,AM];congr 3;omega
theorem NH:∀(i:Int) (l m:List Block),H0 i (l++m)=H0 i l++H0 (i+l.length) m
 |i,[],m=>by simp[H0]
 |i,x::l,m=>by
  rw[BV,H0,NH (i+1) l m,H0,By,AM];congr 3;omega
theorem n7 {i k:Int} (h:y∈pg i k x):y.Block=i/\y.Leaf=k/\x.Is=1/\Vf x.Text=some y.Page:=by grind [pg]
theorem W0 {i:Int}:∀{k:Int} {l:List Leaf} {y:Ak},y∈Rf i k l->y.Block=i/\k<=y.Leaf/\y.Leaf<k+l.length
 |k,[],y,h=>by cases h
 |k,x::l,y,h=>by
  rw[Rf,Aq]at h;rw[AM]
  rcases h with h|h
  ·obtain⟨h1,h2,_⟩:=n7 h;omega
  obtain⟨h1,h2,h3⟩:=W0 h;omega
theorem W1:∀{i:Int} {l:List Block} {y:Ak},y∈H0 i l->i<=y.Block/\y.Block<i+l.length
 |i,[],y,h=>by cases h
 |i,x::l,y,h=>by
  rw[H0,Aq]at h;rw[AM]
  rcases h with h|h
  ·obtain⟨h1,_⟩:=W0 h;omega
  obtain⟨h1,h2⟩:=W1 h;omega
theorem G6 {x:α} (h:l[k]?=some x):l=l.take k++x::l.drop (k+1)/\(l.take k).length=k:=by grind [AS,BF]
theorem g7 {x y:α} (h:l[k]?=some x):l.set k y=l.take k++y::l.drop (k+1):=by grind [List.set_eq_take_append_cons_drop]
theorem Zx {l:List Block} (hb:l[i]?=some b) (hx:b.Leaves[k]?=some x):∃A B,H0 0 l=A++pg i k x++B/\∀bd w y,H0 0 (l.set i (Block.mk bd w (b.Leaves.set k y)))=A++pg i k y++B:=by
 obtain⟨h1,h2⟩:=G6 hb;obtain⟨h3,h4⟩:=G6 hx;refine⟨H0 0 (l.take i)++Rf i 0 (b.Leaves.take k),Rf i ((k:Int)+1) (b.Leaves.drop<|k+1)++H0 ((i:Int)+1) (l.drop<|i+1),?_,λbd w y=>?_⟩
 ·grind [NH,RM,H0,Rf]
 grind [NH,RM,H0,Rf]
theorem XU {l:List Block} {b':Block} (hb:l[i]?=some b) (h0:Rf i 0 b'.Leaves=[]):H0 0 (l.set i b')=(H0 0 l).filter λy=>y.Block !=(i:Int):=by
 obtain⟨h1,h2⟩:=G6 hb;rw[g7 hb]
 conv=>rhs;rw[h1]
 rw[NH,NH,h2,H0,H0,Int.zero_add,h0,Cr,Cr];have e1:(H0 0<|l.take i).filter (λy=>y.Block !=(i:Int))=H0 0 (l.take i):=by
  rw[Ee];intro y hy;have:=(W1 hy).2
  grind
 have e2:(Rf i 0 b.Leaves).filter (λy=>y.Block !=(i:Int))=[]:=by
  rw[Dd];intro y hy;have:=(W0 hy).1;simp[this]
 have e3:(H0 ((i:Int)+1)<|l.drop<|i+1).filter (λy=>y.Block !=(i:Int))=H0 ((i:Int)+1) (l.drop<|i+1):=by
  rw[Ee];intro y hy;have:=(W1 hy).1;simp;omega
 rw[e1,e2,e3]
def lD (x:Leaf):Prop:=(x.Is=0/\L x.Text=[])\/(x.Is=1/\1<=(L x.Text).length/\(L x.Text).length<=120)\/(x.Is=2/\(L x.Text).length<=120)
def e8 (l:List Leaf):Prop:=∀(k:Nat) x y,l[k]?=some x->l[k+1]?=some y->x.Is=0->y.Is=0
structure H7 (b:Block):Prop where
 four:b.Leaves.length=4
 wear:0<=b.Wear/\b.Wear<=1000000000
 leaf:∀x∈b.Leaves,lD x
 turn:e8 b.Leaves
structure Be (f:Flash):Prop where
 n:3<=f.Blocks.length/\f.Blocks.length<=10
 blk:∀b∈f.Blocks,H7 b
theorem g8 (x:Leaf):∃v,N2 x=some v/\(v=true↔lD x):=by
 unfold N2 lD;by_cases h0:x.Is=0
 ·rw[show(x.Is==0)=true by simpa using h0];refine⟨_,rfl,?_⟩;rw[J4,Br];constructor
  ·intro h;exact .inl ⟨h0,by rw[h];rfl⟩
  rintro(h|h|h)
  ·exact H5 (by rw[h.2];rfl)
  ·omega
  omega
 rw[show(x.Is==0)=false by simpa using h0];by_cases h1:x.Is=1
 ·simp_all [CZ,Bf];grind
 rw[show(x.Is==1)=false by simpa using h1];by_cases h2:x.Is=2
 ·simp_all [Bf];grind
 rw[show(x.Is==2)=false by simpa using h2]
 grind
theorem YO (f:Flash) (h:Uv f):∃v,GP f=some v/\(v=true↔Be f):=by
 unfold GP;obtain⟨r,h1,h2⟩:=AG (body:=λs:Int=>Hx f s) (λ(_:Unit) i=>i) f.Blocks.length (λi _=>∀j b,j<i->f.Blocks[j]?=some b->H7 b) (λr=>(r= .inr false/\¬∀b∈f.Blocks,H7 b)\/r= .inl ()/\∀b∈f.Blocks,H7 b)
  (λ_ i hi hs=>by
   have hx:=Ab hi;have hm:f.Blocks[i]∈f.Blocks:=A4 hi;have l:=h.1;simp only[Hx,FN hi,Ar,hx,Aa];by_cases h4:f.Blocks[i].Leaves.length=4
   ·rw[show(ln f.Blocks[i].Leaves !=4)=false by simp[ln,h4]];rw[CZ];simp only[Aa];by_cases hw:0<=f.Blocks[i].Wear/\f.Blocks[i].Wear<=1000000000
    ·rw[Ac hw];obtain⟨q,q1,q2⟩:=AG (body:=λs:Int=>Hw f.Blocks[i] s) (λ(_:Unit) i=>i) f.Blocks[i].Leaves.length
      (λk _=>(∀j x,j<k->f.Blocks[i].Leaves[j]?=some x->lD x)/\∀(j:Nat) x y,j+1<k->f.Blocks[i].Leaves[j]?=some x->f.Blocks[i].Leaves[j+1]?=some y->x.Is=0->y.Is=0)
      (λr=>(r= .inr (.inr<|.inr false)/\¬((∀x∈f.Blocks[i].Leaves,lD x)/\e8 f.Blocks[i].Leaves))\/r= .inl ()/\(∀x∈f.Blocks[i].Leaves,lD x)/\e8 f.Blocks[i].Leaves)
      (λ_ k hk d=>by
       have g:=Ab hk;simp only[Hw,FN hk,Ar,g,Aa];obtain⟨v,v1,v2⟩:=g8 f.Blocks[i].Leaves[k];rw[v1];simp only[Aa]
       cases hv:v with
       |false=>
        grind
       |true=>
        simp only[Ay,Ad];by_cases m:k=0
        ·rw[Ag<|by omega];rw[ad1];simp_all
        rw[Ac<|by omega];rw[BH,show(k:Int)-1=((k-1:Nat):Int) by omega,Ar,Ab<|by omega];simp only[Aa];have good:(f.Blocks[i].Leaves[k-1].Is=0->f.Blocks[i].Leaves[k].Is=0)->(∀j x,j<k+1->f.Blocks[i].Leaves[j]?=some x->lD x)/\∀(j:Nat) x y,j+1<k+1->f.Blocks[i].Leaves[j]?=some x->f.Blocks[i].Leaves[j+1]?=some y->x.Is=0->y.Is=0:=by
         intro hg;refine⟨λj x hj a=>?_,λj x y hj a c h0=>?_⟩
         ·grind
         by_cases e:j+1=k
         ·grind
         grind
        cases e0:(f.Blocks[i].Leaves[k-1].Is==0)with
        |false=>
         rw[ad1];exact .inl ⟨(),rfl,good λhh=>by grind⟩
        |true=>
         simp only[Ah,Aa]
         cases e1:(f.Blocks[i].Leaves[k].Is !=0)with
         |false=>
          rw[ad1];exact .inl ⟨(),rfl,good λ_=>by simpa using e1⟩
         |true=>
          refine .inr ⟨_,rfl,.inl ⟨rfl,λhh=>?_⟩⟩;have:=hh.2 (k-1) _ _ (Ab<|by omega) (by rw[show k-1+1=k by omega];exact g)<|by simpa using e0
          simp[this]at e1)
      (λ_ d=>⟨_,by simp[Fe,Hw],.inr ⟨rfl,λx a=>by
       obtain⟨j,hj,rfl⟩:=Au a
       simp_all;grind,λj x y a c=>d.2 j x y (Ae.1 c).1 a c⟩⟩) (s:=()) ⟨λj x hj=>by omega,λj x y hj=>by omega⟩
     rw[q1]
     rcases q2 with⟨rfl,q2⟩|⟨rfl,q2,q3⟩
     ·exact .inr ⟨_,rfl,.inl ⟨rfl,λhh=>q2 ⟨(hh _ hm).leaf,(hh _ hm).turn⟩⟩⟩
     rw[ad1];refine .inl ⟨(),rfl,λj b hj hb=>?_⟩;by_cases e:j=i
     ·subst e;rw[hx]at hb
      injection hb with hb
      rw[<-hb];exact⟨h4,hw,q2,q3⟩
     grind
    rw[Ag hw];exact .inr ⟨_,rfl,.inl ⟨rfl,λhh=>hw (hh _ hm).wear⟩⟩
   rw[show(ln f.Blocks[i].Leaves !=4)=true by simp[ln];omega]
   exact .inr ⟨_,rfl,.inl ⟨rfl,λhh=>h4 (hh _ hm).four⟩⟩)
  (λ_ hs=>⟨_,by simp[Fe,Hx],.inr ⟨rfl,λb hb=>by
   obtain⟨j,hj,rfl⟩:=Au hb
   simp_all⟩⟩) (s:=()) (λj b hj=>by omega)
 rw[h1]
 rcases h2 with⟨rfl,h2⟩|⟨rfl,h2⟩
 ·exact⟨_,rfl,by simp only[Bool.false_eq_true,false_iff];exact λhh=>h2 hh.blk⟩
 rw[CZ,Bu];refine⟨_,rfl,?_⟩;rw[Br];constructor
 ·intro hh;exact⟨by omega,h2⟩
 intro hh;have:=hh.n;omega
theorem Be.cap (h:Be f):Uv f:=⟨by have:=h.n;omega,λb hb=>by rw[(h.blk b hb).four];omega⟩
theorem Be.text (h:Be f):∀b∈f.Blocks,∀x∈b.Leaves,(L x.Text).length<=120:=λb hb x hx=>by
 rcases(h.blk b hb).leaf x hx with h|h|h
 ·rw[h.2];simp
 ·exact h.2.2
 exact h.2
theorem Oa (h:Be f):GP f=some true:=by
 obtain⟨v,h1,h2⟩:=YO f h.cap;rw[h1,h2.2 h]
theorem Be.few (h:Be f):nl f.Blocks<=40:=by
 have:∀l:List Block,(∀b∈l,H7 b)->nl l=4*l.length:=by
  intro l
  induction l with
  |nil=>intro _;rfl
  |cons b l ih=>
   intro hh;have h1:=ih (λx hx=>hh x<|by simp[hx]);have h2:=(hh b<|by simp).four
   grind [nl]
 rw[this _ h.blk];have:=h.n;omega
def TS (y:Ak):Int:=y.Page.Seq
def SR (l r:List Ak):Prop:=srt TS r/\Bi TS l r
theorem SR.uniq {l:List Ak} (h:SR l r) (h':SR l r'):r=r':=O3 TS h.1 h'.1 λk=>by rw[h.2 k,<-h'.2 k]
theorem SR.mem {l:List Ak} (h:SR l r):y∈r↔y∈l:=h.2.mem
theorem SR.filter {l:List Ak} (h:SR l r) (p:Ak->Bool):SR (l.filter p) (r.filter p):=by
 refine⟨h.1.filter _,λk=>?_⟩;have:=h.2 k;rw[Dz,Dz]
 have e:∀m:List Ak,m.filter (λx=>(TS x==k)&&p x)=(m.filter λx=>TS x==k).filter p:=λm=>by grind [Dz]
 rw[e,e,this]
theorem SR.add {A B r:List Ak} (h:SR (A++B) r) (hy:∀x∈r,TS x<TS y):SR (A++ [y]++B) (r++ [y]):=by
 refine⟨?_,λk=>?_⟩
 ·unfold srt;rw[AH];refine⟨h.1,Jw _ _,λx hx z hz=>?_⟩
  grind
 have h2:=h.2 k;by_cases e:TS y=k
 ·have e1:∀x∈A++B,¬(TS x==k)=true:=λx hx=>by
   have:=hy x<|h.mem.2 hx;simp;omega
  have b0:B.filter (λx=>TS x==k)=[]:=Dd.2 λx hx=>e1 x<|by simp[hx]
  grind
 grind
theorem XS {t:ByteArray} (h:D3 t=some (p,true)):Vf t=some p:=by unfold Vf;rw[h]
theorem eB (h:Be f):Ai (λs:List Ak×Int=>CP f s.1 s.2) ([],0)=some (H0 0 f.Blocks):=by
 have hn:=h.n;obtain⟨X,h1,h2⟩:=AG (body:=λs:List Ak×Int=>CP f s.1 s.2) (λs i=>(s,i)) f.Blocks.length (λi o=>o=H0 0 (f.Blocks.take i)/\o.length<=4*i) (λb=>b=H0 0 f.Blocks)
  (λa i hi hs=>by
   obtain⟨ho,l⟩:=hs;have hb:f.Blocks[i]?=some f.Blocks[i]:=Ab hi;have hm:f.Blocks[i]∈f.Blocks:=A4 _;have h4:=(h.blk _ hm).four;refine .inl ?_;simp only[CP,FN hi];obtain⟨u,q1,q2,q3⟩:=AG (body:=λs:List Ak×Int=>DV f (i:Int) s.1 s.2) (λs i=>(s,i)) f.Blocks[i].Leaves.length (λk u=>u=a++Rf i 0 (f.Blocks[i].Leaves.take k)/\u.length<=a.length+k) (λu=>u=a++Rf i 0 f.Blocks[i].Leaves/\u.length<=a.length+4)
    (λu k hk hu=>by
     obtain⟨d,m⟩:=hu;have hx:f.Blocks[i].Leaves[k]?=some f.Blocks[i].Leaves[k]:=Ab hk;have e:f.Blocks[i].Leaves[k]∈f.Blocks[i].Leaves:=A4 _
     have g:∀y:Ak,ap 72 u [y]=some (u++ [y]):=λy=>B5<|by grind
     have c:∀z,Rf i 0 (f.Blocks[i].Leaves.take<|k+1)=Rf i 0 (f.Blocks[i].Leaves.take k)++z↔pg i k f.Blocks[i].Leaves[k]=z:=by
      intro z;rw[Dc,hx,RM];simp_all [Rf];grind
     refine .inl ?_;obtain⟨p,ok,r1,r2,r3,r4⟩:=GY f.Blocks[i].Leaves[k].Text (by have:=h.text _ hm _ e;omega);simp only[DV,FN hk,Ar,hb,Aa,Rx f h.cap hb hx,g]
     cases j:f.Blocks[i].Leaves[k].Is==1 with
     |false=>
      obtain⟨p',ok',t1,_⟩:=GY (bs []) (by rw[D0];simp);simp only[Ad,Aa,t1];refine⟨u,by rw[ad1],?_,by omega⟩;rw[d,(c []).2 (by unfold pg;grind),AQ]
     |true=>
      simp only[Ah,Aa,r1]
      cases ok with
      |false=>
       refine⟨u,by grind [ad1],?_,by omega⟩;rw[d,(c []).2 (by unfold pg Vf;grind),AQ]
      |true=>
       refine⟨u++ [Ak.mk i k p],by grind [ad1],?_,by grind⟩
       rw[d,(c [Ak.mk i k p]).2 (by simp_all [XS,pg]),By])
    (λu hu=>⟨u,by simp only[DV,Ar,hb,Aa,Fe],by grind,by omega⟩) (s:=a) ⟨by simp[Rf],by omega⟩
   grind [ad1,Dc,NH,H0])
  (λa hs=>⟨a,by simp[Fe,CP],by grind⟩) (s:=[]) ⟨by simp[H0],by simp⟩
 grind
theorem o8 (h:Be f):∃r,eK f r/\SR (H0 0 f.Blocks) r:=by
 have hT:∀b∈f.Blocks,∀x∈b.Leaves,(L x.Text).length<=1048576:=λb hb x hx=>by have:=h.text b hb x hx;omega
 have hn:=h.few;obtain⟨r,h1,h2,h3,h4,h5⟩:=TF f h.cap hT (by omega);refine⟨r,⟨h1,h2,by omega,h4,λy hy=>XV hT<|h4 y hy,h5⟩,h5,?_⟩;obtain⟨X,c1,_,c3,_⟩:=T3 f h.cap hT (by omega);have hX:X=H0 0 f.Blocks:=by grind [eB]
 obtain⟨r',s1,s2,s3⟩:=UK BQ X (by omega);have:HZ f=some r':=by
  unfold HZ
  grind
 rw[h2]at this
 injection this with this
 rw[this,<-hX];exact s3
def Kv (l:List Leaf):Nat:=(l.takeWhile λx=>x.Is !=0).length
theorem gT (l:List Leaf):Kv l<=l.length:=by grind [List.takeWhile_sublist,Kv]
theorem KS:∀(l:List Leaf),(∀(k:Nat) x,k<Kv l->l[k]?=some x->x.Is≠0)/\(∀x,l[Kv l]?=some x->x.Is=0)
 |[]=>⟨λk x h=>by simp[Kv]at h,λx h=>by simp[Kv]at h⟩
 |y::l=>by
  obtain⟨h1,h2⟩:=KS l
  grind [List.takeWhile_cons_of_neg,List.takeWhile_cons_of_pos,Kv]
theorem JD (b:Block) (h:b.Leaves.length=4):GN b=some (Kv b.Leaves:Int):=by
 unfold GN;obtain⟨h1,h2⟩:=KS b.Leaves;have a:=gT b.Leaves;obtain⟨r,q1,q2⟩:=AG (body:=λs:Int=>Fx b s) (λ(_:Unit) i=>i) b.Leaves.length (λi _=>i<=Kv b.Leaves) (λr=>(r= .inr (Kv b.Leaves:Int))\/r= .inl ()/\Kv b.Leaves=4)
  (λ_ i hi hs=>by
   have hx:=Ab hi;simp only[Fx,FN hi,Ar,hx,Aa];by_cases e:i=Kv b.Leaves
   ·grind
   have:=h1 i b.Leaves[i] (by omega) hx;rw[show(b.Leaves[i].Is==0)=false by simpa using this,Ad,ad1]
   exact .inl ⟨(),rfl,by omega⟩)
  (λ_ hs=>⟨_,by simp[Fe,Fx],.inr ⟨rfl,by omega⟩⟩) (s:=()) (by omega)
 grind
theorem H7.blank (h:H7 b) (hk:Kv b.Leaves<=k) (hx:b.Leaves[k]?=some x):x.Is=0:=by
 induction k generalizing x with
 |zero=>
  have:Kv b.Leaves=0:=by omega
  exact(KS b.Leaves).2 x (by grind)
 |succ k ih=>
  by_cases e:Kv b.Leaves=k+1
  ·exact(KS b.Leaves).2 x (by rw[e];exact hx)
  have a:=(Ae.1 hx).1;have hy:b.Leaves[k]?=some b.Leaves[k]:=Ab (by omega);exact h.turn k _ x hy hx<|ih (by omega) hy
theorem SX {y:Leaf} (h:H7 b) (hk:k=Kv b.Leaves) (h4:k<4) (hy:lD y) (a:y.Is≠0):H7 (Block.mk b.Bad b.Wear (b.Leaves.set k y)):=by
 refine⟨by simpa using h.four,h.wear,λx hx=>?_,?_⟩
 ·rcases BY hx with hx|rfl
  ·exact h.leaf x hx
  exact hy
 intro j x z hx hz h0;have hx':(b.Leaves.set k y)[j]?=some x:=hx;have hz':(b.Leaves.set k y)[j+1]?=some z:=hz;rw[He]at hx' hz';by_cases e:k=j
 ·grind
 rw[AA e]at hx';by_cases e2:k=j+1
 ·have:=(KS b.Leaves).1 j x (by omega) hx';exact absurd h0 this
 rw[AA e2]at hz';exact h.turn j x z hx' hz' h0
theorem Nn (h:Be f) (hb:H7 b):Be (Flash.mk (f.Blocks.set i b)):=by
 refine⟨by have:=h.n;simpa using this,λx hx=>?_⟩
 rcases BY hx with hx|rfl
 ·exact h.blk x hx
 exact hb
def Yf (f:Flash) (b l:Int) (t:ByteArray):Prop:=∃x,gi f.Blocks b=some x/\x.Bad=false/\l=(Kv x.Leaves:Int)/\Kv x.Leaves<4/\1<=(L t).length/\(L t).length<=120
def Pw (f:Flash) (b l:Int) (y:Leaf):Flash:=Flash.mk (match gi f.Blocks b with
 |some x=>si f.Blocks b<|Block.mk x.Bad x.Wear<|si x.Leaves l y
 |none=>f.Blocks)
theorem XF (h:Be f) (b l:Int) (t:ByteArray):(Yf f b l t/\KM f b l t=some (Pw f b l (Leaf.mk 1 t),true))\/(¬Yf f b l t/\KM f b l t=some (f,false)):=by
 have hn:=h.n;unfold KM Sy;rw[FQ f h.cap,Oa h];rw[Bu,BH,CZ];simp only[Aa];by_cases hb:0<=b/\b<=(f.Blocks.length:Int)-1
 ·rw[Ac hb];have hg:=Mv (l:=f.Blocks) hb.1 (by omega);have hm:f.Blocks[b.toNat]'(by omega)∈f.Blocks:=A4 _;generalize d:f.Blocks[b.toNat]'(by omega)=x at hg hm;have hP:=h.blk x hm;rw[hg];simp only[Aa]
  cases a:x.Bad with
  |true=>
   refine .inr ⟨?_,rfl⟩;rintro⟨z,hz,h2,_⟩
   grind
  |false=>
   simp only[Ez,Ah];by_cases c:l<4
   ·rw[Ac c];rw[JD x hP.four];simp only[Aa];by_cases hl:l=(Kv x.Leaves:Int)
    ·rw[show(l==(Kv x.Leaves:Int))=true by simpa using hl];simp only[Ah];rw[Bf,CZ];by_cases ht:1<=(L t).length/\(L t).length<=120
     ·rw[Ac (by omega:1<=((L t).length:Int)/\((L t).length:Int)<=120)];refine .inl ⟨⟨x,hg,a,hl,by omega,ht⟩,?_⟩;rw[Mv (l:=x.Leaves) (i:=l) (by omega) (by rw[hP.four];omega)]
      grind [Pw]
     rw[Ag (by omega:¬(1<=((L t).length:Int)/\((L t).length:Int)<=120))];refine .inr ⟨?_,rfl⟩;rintro⟨z,hz,_,_,_,h5⟩;exact ht h5
    rw[show(l==(Kv x.Leaves:Int))=false by simpa using hl];refine .inr ⟨?_,rfl⟩;rintro⟨z,hz,_,h3,_⟩
    grind
   rw[Ag c];refine .inr ⟨?_,rfl⟩;rintro⟨z,hz,_,h3,h4,_⟩;omega
 rw[Ag hb];refine .inr ⟨?_,rfl⟩;rintro⟨z,hz,_⟩;obtain⟨k1,k2⟩:=C6 hz
 grind
theorem OC {b l:Int} {t:ByteArray} (h:Be f) (hm:Yf f b l t):Be (Pw f b l (Leaf.mk 1 t))/\Be (Pw f b l (Leaf.mk 2 t))/\∃A B,H0 0 f.Blocks=A++B/\(∀p,Vf t=some p->H0 0 (Pw f b l (Leaf.mk 1 t)).Blocks=A++ [Ak.mk b l p]++B)/\(∀u,H0 0 (Pw f b l (Leaf.mk 2 u)).Blocks=A++B):=by
 obtain⟨x,h1,h2,rfl,h4,h5⟩:=hm;obtain⟨k1,k2⟩:=C6 h1;obtain⟨c,rfl⟩:∃c:Nat,b=(c:Int):=⟨_,(AL k1).symm⟩;rw[DP]at k2;have hP:=h.blk x<|Am k2;have hx:x.Leaves[Kv x.Leaves]?=some (x.Leaves[Kv x.Leaves]'(by rw[hP.four];exact h4)):=Ab _;have d:=hP.blank (A5 _) hx
 have a:∀y,Pw f (c:Int) (Kv x.Leaves:Int) y=Flash.mk (f.Blocks.set c<|Block.mk x.Bad x.Wear<|x.Leaves.set (Kv x.Leaves) y):=λy=>by grind [Ea,Pw]
 rw[a,a];refine⟨Nn h (SX hP rfl h4 (.inr<|.inl ⟨rfl,h5.1,h5.2⟩)<|by simp),Nn h (SX hP rfl h4 (.inr<|.inr ⟨rfl,h5.2⟩)<|by simp),?_⟩
 grind [Zx,pg]
theorem gS {l:List Leaf} (h:∀x∈l,x.Is=0):nb l=l.length:=by
 induction l with
 |nil=>rfl
 |cons x l ih=>grind [RO,nb]
theorem kZ {l:List Leaf} (h:∀x∈l,x.Is≠0):nb l=0:=by
 induction l with
 |nil=>rfl
 |cons x l ih=>grind [RO,nb]
theorem oF (l m:List Leaf):nb (l++m)=nb l+nb m:=by unfold nb;grind
theorem H7.nb (h:H7 b):nb b.Leaves=4-Kv b.Leaves:=by
 have h4:=h.four;have e:Go.TI.nb b.Leaves=Go.TI.nb (b.Leaves.take<|Kv b.Leaves)+Go.TI.nb (b.Leaves.drop<|Kv b.Leaves):=by rw[<-oF,BF]
 rw[e,kZ (l:=b.Leaves.take<|Kv b.Leaves),gS (l:=b.Leaves.drop<|Kv b.Leaves),Lk,h4]
 ·omega
 ·intro x hx;obtain⟨k,hk,rfl⟩:=Au hx;rw[List.getElem_drop];exact h.blank (k:=Kv b.Leaves+k) (by omega)<|Ab _
 intro x hx;obtain⟨k,hk,rfl⟩:=Au hx;rw[Ev]at hk;rw[List.getElem_take];exact(KS b.Leaves).1 k _ (by omega) (Ab _)
def OD (f:Flash) (b l:Int):Prop:=∃x,gi f.Blocks b=some x/\x.Bad=false/\l=(Kv x.Leaves:Int)/\Kv x.Leaves<4
theorem Ui (h:Be f):∃v:Int,Kk f=some v/\((v= -1/\∀b∈f.Blocks,b.Bad=false->Kv b.Leaves=0\/Kv b.Leaves=4)\/∃x,gi f.Blocks v=some x/\x.Bad=false/\Kv x.Leaves<4):=by
 unfold Kk;have hn:=h.n;obtain⟨b,h1,h3⟩:=AG (body:=λs:Int=>Fw f s) (λ(_:Unit) i=>i) f.Blocks.length (λi _=>∀(j:Nat) b,j<i->f.Blocks[j]?=some b->b.Bad=false->Kv b.Leaves=0\/Kv b.Leaves=4) (λb=>(b= .inl ()/\∀b∈f.Blocks,b.Bad=false->Kv b.Leaves=0\/Kv b.Leaves=4)\/∃i:Nat,∃x,b= .inr (i:Int)/\f.Blocks[i]?=some x/\x.Bad=false/\Kv x.Leaves<4)
  (λ_ i hi hs=>by
   have hg:f.Blocks[i]?=some f.Blocks[i]:=Ab hi;have hP:=h.blk _<|A4 hi;have c:=hP.nb;have h4:=hP.four;have d:=gT f.Blocks[i].Leaves;simp only[Fw,FN hi];rw[Zz f i hg<|by omega];simp only[Aa,Ar,hg];rw[ad1]
   cases a:f.Blocks[i].Bad with
   |true=>
    refine .inl ⟨(),rfl,λj b hj hb h0=>?_⟩
    grind
   |false=>
    by_cases e:0<Kv f.Blocks[i].Leaves/\Kv f.Blocks[i].Leaves<4
    ·grind
    have:(cond (decide<|((nb f.Blocks[i].Leaves:Nat):Int)>0) (some<|decide<|((f.Blocks[i].Leaves.length-nb f.Blocks[i].Leaves:Nat):Int)>0) (some false):Option Bool)=some false:=by grind [Ag]
    rw[this];refine .inl ⟨(),rfl,λj b hj hb h0=>?_⟩
    grind)
  (λ_ hs=>⟨_,by simp[Fe,Fw],.inl ⟨rfl,λb hb=>by
   obtain⟨j,hj,rfl⟩:=Au hb
   simp_all⟩⟩) (s:=()) (λj b hj=>by omega)
 grind [Ar]
theorem XI (h:Be f):∃b l:Int,∃ok:Bool,KN f=some (b,l,ok)/\(ok=true->OD f b l)/\(ok=false->∀b∈f.Blocks,b.Bad=false->Kv b.Leaves=4):=by
 have hn:=h.n;obtain⟨o,o1,o2⟩:=Ui h;obtain⟨e1,_⟩:=U5 f h.cap;unfold KN;rw[Oa h,o1,e1];simp only[Aa,Ay,Ad]
 rcases o2 with⟨rfl,o2⟩|⟨x,o2,o3,o4⟩
 ·rw[Ag<|by omega];have a:∀y∈V3 f,OD f y 0:=by
   intro y hy;obtain⟨i,hi,rfl⟩:=Az.1 hy;obtain⟨d,c⟩:=AC.1 hi;rw[Uz]at d;unfold LW at c;rw[Ab d]at c;simp only[Al,Hf,Br]at c;have hP:=h.blk _<|A4 d;have:=hP.nb;have:=hP.four;exact⟨_,by rw[Ar];grind,c.1,by omega,by omega⟩
  cases j:V3 f with
  |nil=>
   refine⟨0,0,false,rfl,by simp,λ_ b hb g=>?_⟩
   rcases o2 b hb g with e|e
   ·obtain⟨i,hi,rfl⟩:=Au hb;have hm:(i:Int)∈V3 f:=by
     refine Az.2 ⟨i,AC.2 ⟨Uz.2 hi,?_⟩,rfl⟩;unfold LW;have hP:=h.blk _<|A4 hi;have:=hP.nb;have:=hP.four
     grind
    grind
   exact e
  |cons x l=>
   rw[j]at a;have p:(x::l).length<=10:=by grind [V3]
   have k:(ln (x::l)==0)=false:=by simp[ln];omega
   rw[k];have m:gi (x::l) 0=some x:=Ar (i:=0);rw[m];simp only[Aa]
   have q:∀y,OD f y 0->∃z,gi f.Blocks y=some z:=λy ⟨z,hz,_⟩=>⟨z,hz⟩
   obtain⟨w,w1,w2⟩:=P8 (body:=λs:Int×Int=>Ht f (x::l) s.1 s.2) (λ(b:Int) i=>(b,i)) (x::l).length (λ_ b=>OD f b 0) (λb=>OD f b 0)
    (λb i hi hb=>by
     have hg:(x::l)[i]?=some (x::l)[i]:=Ab hi
     grind [A4,Ar,ad1,Ht])
    (λb hb=>⟨b,by simp only[Ht,Fe],hb⟩) l.length 1 x (by simp;omega) (a x<|by simp)
   have e1':((1:Nat):Int)=1:=rfl;rw[e1']at w1;rw[w1];exact⟨w,0,true,rfl,λ_=>w2,by simp⟩
 obtain⟨k1,k2⟩:=C6 o2;rw[cT,o2,Aa,JD x (h.blk x<|Am k2).four];exact⟨_,_,true,rfl,λ_=>⟨x,o2,o3,rfl,o4⟩,by simp⟩
def iU (f:Flash) (b:Int):Prop:=∃x,gi f.Blocks b=some x/\x.Bad=false/\x.Wear≠1000000000
def QL (f:Flash) (b:Int):Flash:=Flash.mk (match gi f.Blocks b with
 |some x=>si f.Blocks b<|Block.mk false (x.Wear+1) Mi
 |none=>f.Blocks)
theorem fR (h:Be f) (b:Int):(iU f b/\Sz f b=some (QL f b,true))\/(¬iU f b/\Sz f b=some (f,false)):=by
 have hn:=h.n;unfold Sz;rw[FQ f h.cap,Oa h];rw[Bu,BH,CZ];simp only[Aa];by_cases hb:0<=b/\b<=(f.Blocks.length:Int)-1
 ·rw[Ac hb];simp only[Ay,Ad];have hg:=Mv (l:=f.Blocks) hb.1 (by omega);have hm:f.Blocks[b.toNat]'(by omega)∈f.Blocks:=A4 _;generalize c:f.Blocks[b.toNat]'(by omega)=x at hg hm;have hP:=h.blk x hm;rw[hg];simp only[Aa]
  cases a:x.Bad with
  |true=>
   refine .inr ⟨?_,rfl⟩;rintro⟨z,hz,h2,_⟩
   grind
  |false=>
   simp only[Ad,Aa];by_cases hw:x.Wear=1000000000
   ·rw[show(x.Wear==1000000000)=true by simpa using hw];refine .inr ⟨?_,rfl⟩;rintro⟨z,hz,_,h3⟩
    grind
   rw[show(x.Wear==1000000000)=false by simpa using hw];simp only[Ad];rw[Vt];simp only[Aa];have:=hP.wear;rw[BN];refine .inl ⟨⟨x,hg,a,hw⟩,?_⟩
   grind [QL]
 rw[Ag hb];refine .inr ⟨?_,rfl⟩;rintro⟨z,hz,_⟩;obtain⟨k1,k2⟩:=C6 hz
 grind
theorem Y9 {bad:Bool} {w:Int} (h:0<=w/\w<=1000000000):H7 (Block.mk bad w Mi):=by
 refine⟨rfl,h,λx hx=> .inl ?_,λk x y hx hy _=>?_⟩
 ·have:=D8 hx;rw[this];exact⟨rfl,rfl⟩
 have:=D8<|Am hy;rw[this]
theorem SJ (i:Int):∀(k:Int) (l:List Leaf),(∀x∈l,x.Is≠1)->Rf i k l=[]
 |k,[],_=>rfl
 |k,x::l,h=>by
  rw[Rf,SJ i (k+1) l (λy hy=>h y (by simp[hy]))];unfold pg
  grind
theorem QK {b:Int} (h:Be f) (hc:iU f b):Be (QL f b)/\H0 0 (QL f b).Blocks=(H0 0 f.Blocks).filter λy=>y.Block !=b:=by
 obtain⟨x,h1,h2,h3⟩:=hc;obtain⟨k1,k2⟩:=C6 h1;obtain⟨c,rfl⟩:∃c:Nat,b=(c:Int):=⟨_,(AL k1).symm⟩;have hP:=h.blk x<|Am k2;have hw:=hP.wear;unfold QL;rw[h1];simp only[Ea];exact⟨Nn h (Y9 ⟨by omega,by omega⟩),XU k2 (SJ _ _ _ λy hy=>by rw[D8 hy];simp)⟩
def O2 (f:Flash) (s:Bl):Prop:=(s.Kind=1/\Yf f s.Block s.Leaf s.Text)\/(s.Kind=2/\iU f s.Block)
def Jz (f:Flash) (s:Bl):Flash:=if s.Kind=1 then Pw f s.Block s.Leaf (Leaf.mk 1 s.Text)else QL f s.Block
theorem SA (h:Be f) (s:Bl):(O2 f s/\KO f s=some (Jz f s,true))\/(¬O2 f s/\KO f s=some (f,false)):=by
 unfold KO;by_cases k1:s.Kind=1
 ·rw[show(s.Kind==1)=true by simpa using k1]
  rcases XF h s.Block s.Leaf s.Text with⟨h1,h2⟩|⟨h1,h2⟩
  ·rw[h2];exact .inl ⟨.inl ⟨k1,h1⟩,by grind [Jz]⟩
  rw[h2];exact .inr ⟨by rintro(hh|hh);exact h1 hh.2;omega,rfl⟩
 rw[show(s.Kind==1)=false by simpa using k1];by_cases k2:s.Kind=2
 ·rw[show(s.Kind==2)=true by simpa using k2]
  rcases fR h s.Block with⟨h1,h2⟩|⟨h1,h2⟩
  ·rw[h2];exact .inl ⟨.inr ⟨k2,h1⟩,by grind [Jz]⟩
  rw[h2];exact .inr ⟨by rintro(hh|hh);omega;exact h1 hh.2,rfl⟩
 rw[show(s.Kind==2)=false by simpa using k2];rw[FQ f h.cap];exact .inr ⟨by rintro(hh|hh)<;>omega,rfl⟩
theorem kD (h:Be f) (hs:O2 f s):Be (Jz f s):=by
 unfold Jz
 rcases hs with⟨h1,h2⟩|⟨h1,h2⟩
 ·grind [OC]
 grind [QK]
theorem Sv {t:ByteArray} {ok:Bool} (h:Be f) (steps:List Bl) (hs:steps.length<=1000) (p:Page) (ht:D4 p=some (t,ok)) (hl:ok=true->1<=(L t).length/\(L t).length<=120):
  (ok=true/\∃b l,OD f b l/\KN f=some (b,l,true)/\Gc f steps p=some (Pw f b l (Leaf.mk 1 t),steps++ [Bl.mk 1 b l t],true))\/Gc f steps p=some (f,steps,false):=by
 obtain⟨b,l,room,p1,p2,_⟩:=XI h;unfold Gc;rw[ht,p1];simp only[Aa]
 cases ok with
 |false=>exact .inr rfl
 |true=>
  simp only[Ay,Ad,Aa]
  cases room with
  |false=>exact .inr rfl
  |true=>
   simp only[Ay,Ad];have hp:=p2 rfl;have hl':=hl rfl;have hm:Yf f b l t:=by
    obtain⟨x,a1,a2,a3,a4⟩:=hp;exact⟨x,a1,a2,a3,a4,hl'⟩
   rcases SA h (Bl.mk 1 b l t)with⟨h1,h2⟩|⟨h1,h2⟩
   ·rw[h2];rw[Aa,B5 (by simp;omega)];refine .inl ⟨trivial,b,l,hp,rfl,?_⟩;rfl
   exact absurd (.inl ⟨rfl,hm⟩) h1
theorem YC (u:ByteArray) (hu:(L u).length<=20000) (a:Nat) (ha:a<=(L u).length):∃n c,CX (EB.mk u (a:Int) false)=some (n,c)/\c.text_=u/\(c.bad_=true\/c.bad_=false/\∃b:Nat,c.at_=b/\a<b/\b<=(L u).length)/\(c.bad_=true->c.at_=a):=by
 obtain⟨r,h1,_,h2⟩:=Ie u (a:Int) (by omega) ⟨by omega,by omega⟩;rw[GU u _ hu h1]
 rcases h2 with⟨e1,e2,e3⟩|⟨e1,a',b,n,k1,k2,k3,k4,k5,_⟩
 ·grind
 grind
theorem bC (t:ByteArray) (ht:(L t).length<=20000):∀(n a:Nat) (b:List CU),(L t).length-a<=n->a<=(L t).length->b.length<=a->∃r,Ai (λs:List CU×ByteArray×Int×Bool=>Eb t s.1 s.2.1 s.2.2.1 s.2.2.2) (b,t,(a:Int),false)=some r/\(r= .inr ([],false)\/∃l:List CU,r= .inl l/\l.length<=(L t).length)
 |n,a,b,hn,ha,ho=>by
  rw[Aw];simp only[Eb];rw[Bf];by_cases c:a<(L t).length
  ·rw[Ac (by omega:(a:Int)<((L t).length:Int))];rw[DF t c,ad1];obtain⟨n1,c1,v1,t1,h1,z1⟩:=YC t ht (a+1) (by omega);rw[v1];simp only[Aa]
   rcases h1 with e1|⟨e1,b1,k1,k2,k3⟩
   ·
    have hz:=z1 e1;obtain⟨c1t,c1a,c1b⟩:=c1;subst t1 e1 hz;rw[F6 _ _ ht ⟨by omega,by omega⟩]
    grind
   obtain⟨c1t,c1a,c1b⟩:=c1;simp only at t1 e1 k1;subst t1 e1 k1;obtain⟨n2,c2,v2,t2,h2,z2⟩:=YC c1t ht b1 k3;rw[v2];simp only[Aa]
   rcases h2 with e2|⟨e2,b2,m1,m2,m3⟩
   ·grind
   rw[e2];rw[N7];simp only[Aa]
   cases F5 _ with
   |false=>grind
   |true=>
    rw[B5 (by simp;omega),t2,m1]
    match n,hn with
    |n+1,hn=>exact bC c1t ht n b2 _ (by omega) m3 (by simp;omega)
    |0,hn=>omega
  grind
noncomputable def Ve (t:ByteArray):Option (List CU):=match HT t with
 |some (l,true)=>some l
 |_=>none
theorem aA (t:ByteArray) (ht:(L t).length<=20000):∃l ok,HT t=some (l,ok)/\Ve t=(if ok=true then some l else none)/\l.length<=20000:=by
 obtain⟨r,h1,h2⟩:=bC t ht (L t).length 0 [] (by omega) (by omega) (by simp);unfold Ve HT
 grind
def eS (t a b:Int) (y:Ak):Bool:=y.Page.Kind==2&&(y.Page.Tx==t&&(y.Page.Part==a&&(!decide (a>0)||y.Page.Count==b)))
def Q3 (r:List Ak) (t a b:Int):Option Ak:=r.find?<|eS t a b
theorem b9 {x:α} (l:List α) (p:α->Bool) (h:∀j x,j<i->l[j]?=some x->p x=false) (hx:l[i]?=some x) (hp:p x=true):l.find? p=some x:=by
 obtain⟨h1,h2⟩:=G6 hx;have:(l.take i).find? p=none:=by grind [Au]
 grind
theorem mB (l:List α) (p:α->Bool) (h:∀(j:Nat) x,l[j]?=some x->p x=false):l.find? p=none:=by
 rw[Oc];intro y hy;obtain⟨j,hj,rfl⟩:=Au hy;rw[h j _<|Ab hj];simp
structure GB (r:List Ak):Prop where
 len:r.length<=1048576
 text:∀y∈r,(L y.Page.Text).length<=90
 seq:∀y∈r,1<=y.Page.Seq/\y.Page.Seq<=1000000000
 tx:∀y∈r,1<=y.Page.Tx/\y.Page.Tx<=1000000000
 cnt:∀y∈r,1<=y.Page.Count/\y.Page.Count<=9
 part:∀y∈r,0<=y.Page.Part/\y.Page.Part<y.Page.Count
def Qr (a seq:Int) (y:Ak):Int:=if a=0\/y.Page.Seq<seq then y.Page.Seq else seq
theorem g9 (r:List Ak) (hr:GB r) (t a c:Int) (hp:0<=a) (text:ByteArray) (ht:(L text).length<=10000) (seq:Int):
  ∃text2,Ai (λs:Int×ByteArray×Bool×Int×Int=>G3 r t a s.1 s.2.1 s.2.2.1 s.2.2.2.1 s.2.2.2.2) (c,text,false,0,seq)=some (match Q3 r t a c with
   |none=>(c,text,false,seq)
   |some y=>(y.Page.Count,text2,true,Qr a seq y))/\(∀y,Q3 r t a c=some y->L text2=L text++L y.Page.Text):=by
 have f:=hr.len;obtain⟨b,h1,h2⟩:=AG (body:=λs:Int×ByteArray×Bool×Int×Int=>G3 r t a s.1 s.2.1 s.2.2.1 s.2.2.2.1 s.2.2.2.2) (λ(s:Int×ByteArray×Bool×Int) i=>(s.1,s.2.1,s.2.2.1,i,s.2.2.2)) r.length
  (λi s=>(s=(c,text,false,seq)/\∀(j:Nat) x,j<i->r[j]?=some x->eS t a c x=false)\/∃y u,Q3 r t a c=some y/\L u=L text++L y.Page.Text/\s=(y.Page.Count,u,true,Qr a seq y))
  (λb=>(b=(c,text,false,seq)/\Q3 r t a c=none)\/∃y u,Q3 r t a c=some y/\L u=L text++L y.Page.Text/\b=(y.Page.Count,u,true,Qr a seq y))
  (λs i hi hs=>by
   have hx:=Ab hi;have hm:r[i]∈r:=A4 hi;simp only[G3,IV,Ac hi,Ah,Aa]
   rcases hs with⟨rfl,hs⟩|⟨y,u,f1,f2,rfl⟩
   ·simp only[Ez,Ah,Ar,hx,Aa];have d:(cond (r[i].Page.Kind !=2) (some true) (cond (r[i].Page.Tx !=t) (some true)<|cond (r[i].Page.Part !=a) (some true)<|cond (decide<|a>0) (some<|r[i].Page.Count !=c)<|some false):Option Bool)=some (!eS t a c r[i]):=by grind [eS]
    rw[d,Aa,ad1]
    cases hM:eS t a c r[i]with
    |false=>
     grind
    |true=>
     have g:=hr.text _ hm;rw[FB _ _<|by omega];have hf:Q3 r t a c=some r[i]:=b9 r _ (λj x hj e=>hs j x hj e) hx hM
     grind [FE,Qr]
   grind)
  (λs hs=>by
   refine⟨s,by grind [IV,G3],?_⟩
   rcases hs with⟨rfl,hs⟩|hs
   ·exact .inl ⟨rfl,mB r _ λj x hx=>hs j x (Ae.1 hx).1 hx⟩
   exact .inr hs) (s:=(c,text,false,seq)) (.inl ⟨rfl,λj x hj=>by omega⟩)
 have h1':Ai (λs:Int×ByteArray×Bool×Int×Int=>G3 r t a s.1 s.2.1 s.2.2.1 s.2.2.2.1 s.2.2.2.2) (c,text,false,0,seq)=some b:=h1;rw[h1']
 rcases h2 with⟨rfl,h2⟩|⟨y,u,f1,f2,rfl⟩
 ·rw[h2];simp
 simp_all
def parts (r:List Ak) (t:Int):Nat->Int->Int->List UInt8->Int->Option (List UInt8×Int)
 |0,_,_,_,_=>none
 |n+1,a,c,b,seq=>if a=0\/a<c then(match Q3 r t a c with
  |none=>none
  |some y=>parts r t n (a+1) y.Page.Count (b++L y.Page.Text) (Qr a seq y))else some (b,seq)
theorem lJ {t a b:Int} (h:eS t a b y=true) (hp:0<a):y.Page.Count=b:=by grind [eS]
theorem Tq {t a b:Int} (h:Q3 r t a b=some y):y∈r/\eS t a b y=true:=⟨EM h,List.find?_some h⟩
theorem Yj (r:List Ak) (hr:GB r) (t:Int):∀(n:Nat) (a cnt:Int) (text:ByteArray) (seq:Int),a+n=11->0<=a->(a=0\/(a<=cnt/\cnt<=9))->(L text).length<=90*a.toNat->
  ∃b,Ai (λs:Int×ByteArray×Int×Int=>Lz r t s.1 s.2.1 s.2.2.1 s.2.2.2) (cnt,text,a,seq)=some b/\(match parts r t n a cnt (L text) seq with
   |none=>∃q,b= .inr (Tx.mk t q [],false)
   |some (x,q)=>∃u,b= .inl (u,q)/\L u=x/\(L u).length<=1000)
 |0,a,cnt,text,seq,hn,h0,hc,ht=>by omega
 |n+1,a,cnt,text,seq,hn,h0,hc,ht=>by
  rw[Aw];simp only[Lz,parts];have c:(cond (a==0) (some true) (some (decide (a<cnt))):Option Bool)=some (decide (a=0\/a<cnt)):=by grind
  rw[c];simp only[Aa];by_cases e:a=0\/a<cnt
  ·rw[Ac e,Bc e];obtain⟨text2,h1,h2⟩:=g9 r hr t a cnt h0 text (by omega) seq;rw[h1]
   cases hf:Q3 r t a cnt with
   |none=>simp
   |some y=>
    simp only[Aa,Ay,Ad];have hy:=Tq hf;have hL:=h2 y hf;have d:=hr.text y hy.1;have f:=hr.cnt y hy.1;rw[BN,<-hL];refine Yj r hr t n (a+1) y.Page.Count text2 _ (by omega) (by omega) (.inr ?_) ?_
    ·grind [lJ]
    grind
  simp_all [AA];grind
noncomputable def HH (r:List Ak) (t:Int):Option Tx:=match parts r t 11 0 0 [] 0 with
 |none=>none
 |some (x,q)=>(Ve (bs x)).map λl=>Tx.mk t q l
theorem sF (u:ByteArray):bs (L u)=u:=H5<|by rw[D0]
theorem UQ (r:List Ak) (hr:GB r) (t:Int):∃x ok,RF r t=some (x,ok)/\HH r t=(if ok=true then some x else none)/\x.Recs.length<=20000:=by
 obtain⟨b,h1,h2⟩:=Yj r hr t 11 0 0 (bs []) 0 (by omega) (by omega) (.inl rfl) (by rw[D0];simp);rw[D0]at h2;unfold RF HH;rw[h1];simp only[Aa]
 cases hp:parts r t 11 0 0 [] 0 with
 |none=>grind
 |some w=>
  obtain⟨x,q⟩:=w;rw[hp]at h2;obtain⟨u,rfl,rfl,h4⟩:=h2;simp only[Ic];obtain⟨l,ok,r1,r2,r3⟩:=aA u (by omega);simp_all [sF];grind
theorem Ps {P:List α->Prop} (nil:P []) (app:∀l x,P l->P (l++ [x])) (l:List α):P l:=by
 rw[<-List.reverse_reverse l]
 induction l.reverse with
 |nil=>exact nil
 |cons x l ih=>grind
def Dn (r:List Ak):List Int:=r.foldl (λns y=>if y.Page.Kind=2 then bW ns y.Page.Tx else ns) []
theorem P3 (r:List Ak) (y:Ak):Dn (r++ [y])=if y.Page.Kind=2 then bW (Dn r) y.Page.Tx else Dn r:=by unfold Dn;grind
theorem FM (r:List Ak) (h:∀y∈r,1<=y.Page.Tx):asc (Dn r)/\(∀x,x∈Dn r↔∃y∈r,y.Page.Kind=2/\y.Page.Tx=x)/\(Dn r).length<=r.length:=by
 have main:∀n,n<=r.length->asc (Dn<|r.take n)/\(∀x,x∈Dn (r.take n)↔∃y∈r.take n,y.Page.Kind=2/\y.Page.Tx=x)/\(Dn<|r.take n).length<=n:=by
  intro n
  induction n with
  |zero=>simp[Dn,asc]
  |succ n ih=>
   intro hn;obtain⟨h1,h2,h3⟩:=ih (by omega);have et:r.take (n+1)=r.take n++ [r[n]'(by omega)]:=Af (by omega);have hy:=h _ (A4<|show n<r.length by omega);generalize r[n]'(by omega)=y at et hy
   grind [P3,bV,Ta,bU]
 have:=main r.length<|A5 _
 grind
theorem Ul (r:List Ak) (hr:GB r):Ai (λs:List Int×Int=>GO r s.1 s.2) ([],0)=some (Dn r):=by
 have d:=hr.len;obtain⟨b,h1,h2⟩:=AG (body:=λs:List Int×Int=>GO r s.1 s.2) (λ(o:List Int) i=>(o,i)) r.length (λi o=>o=Dn (r.take i)) (λb=>b=Dn r)
  (λo i hi ho=>by
   have hx:=Ab hi;have hm:r[i]∈r:=A4 hi;have f:=(hr.tx _ hm).1;have a:=FM (r.take i) λy hy=>(hr.tx y<|List.mem_of_mem_take hy).1;have g:o.length<=1048576:=by grind
   have et:r.take (i+1)=r.take i++ [r[i]]:=Af hi;simp only[GO,FN hi,Ar,hx,Aa];rw[ad1];refine .inl ?_;by_cases e:r[i].Page.Kind=2
   ·rw[show(r[i].Page.Kind !=2)=false by simp[e]]
    rw[NP (body:=λs:List Int×Int=>ID o r[i] s.1 s.2) o (λy=>decide<|y<r[i].Page.Tx) [] (by simp;omega)
     (λu k x hk hu=>by
      have c:=(Ae.1 hk).1
      simp_all [Ar,FN,ID])
     (λu=>by simp[Fe,ID])]
    simp only[Aa,Ao]
    rw[B5 (by grind),Aa,NP (body:=λs:List Int×Int=>IC o r[i] s.1 s.2) o (λy=>decide<|y>r[i].Page.Tx) _ (by grind)
     (λu k x hk hu=>by
      have c:=(Ae.1 hk).1
      simp_all [Ar,FN,IC])
     (λu=>by simp[Fe,IC])]
    grind [P3,bW]
   grind [P3])
  (λo ho=>⟨o,by simp[Fe,GO],by grind⟩) (s:=[]) rfl
 grind
noncomputable def AN (r:List Ak):List Tx:=(Dn r).filterMap (HH r)
theorem OX {x:Tx} (hr:GB r) (h:HH r t=some x):x.Num=t/\x.Recs.length<=20000:=by
 obtain⟨z,ok,h1,h2,h3⟩:=UQ r hr t
 grind [A9,HH]
theorem Ra (r:List Ak) (hr:GB r):MT r=some (AN r):=by
 have c:=hr.len;have a:=FM r λy hy=>(hr.tx y hy).1;unfold MT;rw[Ul r hr];simp only[Aa];obtain⟨b,h1,h2⟩:=AG (body:=λs:List Tx×Int=>IB r (Dn r) s.1 s.2) (λ(o:List Tx) i=>(o,i)) (Dn r).length (λi o=>o=((Dn r).take i).filterMap (HH r)) (λb=>b=AN r)
  (λo i hi ho=>by
   have hx:=Ab hi;have et:(Dn r).take (i+1)=(Dn r).take i++ [(Dn r)[i]]:=Af hi;simp only[IB,FN hi,Ar,hx,Aa];rw[ad1];obtain⟨z,ok,k1,k2,k3⟩:=UQ r hr (Dn r)[i]
   grind [B5])
  (λo ho=>⟨o,by simp[Fe,IB],by rw[ho,Ig];rfl⟩) (s:=[]) rfl
 grind
def eT (x:Tx):Bool:=match x.Recs with
 |[]=>false
 |r::_=>r.Kind==1
def eV (l:List Tx):Nat:=l.zipIdx.foldl (λa z=>if eT z.1=true then z.2 else a) 0
def CD (l:List Tx):List Tx:=l.drop<|eV l
theorem WW (l:List Tx) (x:Tx):eV (l++ [x])=if eT x=true then l.length else eV l:=by
 unfold eV
 grind
theorem i8 (l:List Tx):eV l<=l.length:=by
 induction l using Ps with
 |nil=>simp[eV]
 |app l x ih=>grind [WW]
theorem N0 (l:List Tx) (x:Tx):CD (l++ [x])=if eT x=true then [x]else CD l++ [x]:=by grind [WW,i8,CD]
theorem Xz (l:List Tx):∃A,l=A++CD l/\(A≠ []->∃x B,CD l=x::B/\eT x=true)/\∀x B,CD l=x::B->∀y∈B,eT y=false:=by
 induction l using Ps with
 |nil=>exact⟨[],rfl,λh=>absurd rfl h,λx B h=>by cases h⟩
 |app l x ih=>
  obtain⟨A,h1,h2,h3⟩:=ih;rw[N0];by_cases e:eT x=true
  ·rw[Bc e];exact⟨l,rfl,λ_=>⟨x,[],rfl,e⟩,λy B h=>by grind⟩
  rw[AA e];refine⟨A,by grind,λhA=>?_,λy B h=>?_⟩
  ·grind
  cases hs:CD l with
  |nil=>grind
  |cons w B'=>grind
theorem fK (A:List Tx):∀(B:List Tx),(A≠ []->∃x B',B=x::B'/\eT x=true)->(∀x B',B=x::B'->∀y∈B',eT y=false)->CD (A++B)=B:=by
 intro B
 induction B using Ps with
 |nil=>
  intro h1 _
  cases A with
  |nil=>rfl
  |cons a A=>grind
 |app B y ih=>
  intro h1 h2;rw[<-By,N0]
  cases B with
  |nil=>simp_all;grind
  |cons b B=>simp_all
theorem S2 (l:List Tx) (hl:l.length<=1048576) (hr:∀x∈l,x.Recs.length<=20000):Ki l=some (CD l):=by
 unfold Ki;obtain⟨b,h1,h2⟩:=AG (body:=λs:Int×Int=>Fu l s.1 s.2) (λ(o:Int) i=>(o,i)) l.length (λi o=>o=(eV (l.take i):Int)) (λb=>b=(eV l:Int))
  (λo i hi ho=>by
   have hx:=Ab hi;have et:l.take (i+1)=l.take i++ [l[i]]:=Af hi;simp only[Fu,FN hi,Ar,hx,Aa]
   grind [ad1,WW,Bu,eT,gi])
  (λo ho=>⟨o,by simp[Fe,Fu],by grind⟩) (s:=0) rfl
 rw[h1,h2];simp only[Aa];have a:=i8 l;obtain⟨c,q1,q2⟩:=P8 (body:=λs:List Tx×Int=>Ft l s.1 s.2) (λ(o:List Tx) i=>(o,i)) l.length (λi o=>o=(l.take i).drop (eV l)/\eV l<=i) (λb=>b=CD l)
  (λo i hi hs=>by
   obtain⟨ho,d⟩:=hs;have hx:=Ab hi;have hm:l[i]∈l:=A4 hi;have e:=hr _ hm;have et:l.take (i+1)=l.take i++ [l[i]]:=Af hi;simp only[Ft,FN hi,Ar,hx,Aa];rw[Mj (by omega),Aa,B5 (by grind),Aa,ad1];refine .inl ⟨_,rfl,?_,by omega⟩
   rw[et,List.drop_append_of_le_length (by grind),<-ho])
  (λo hs=>⟨o,by simp[Fe,Ft],by rw[hs.1,Ig];rfl⟩) (l.length-eV l) (eV l) [] (by omega) ⟨by grind,A5 _⟩
 grind
def BX (l:Vs) (nx:Int) (a:List CU):Option (Vs×Int):=a.foldl (λo r=>o.bind λp=>Db p.1 p.2 r)<|some (l,nx)
theorem Np (a:List CU):a.foldl (λ(o:Option (Vs×Int)) r=>o.bind λp=>Db p.1 p.2 r) none=none:=by
 induction a with
 |nil=>rfl
 |cons r l ih=>grind
theorem Eu (l:Vs) (nx:Int) (r:CU) (a:List CU):BX l nx (r::a)=(Db l nx r).bind λp=>BX p.1 p.2 a:=by grind [Np,BX,Db]
theorem Iu (l:Vs) (nx:Int) (a b:List CU):BX l nx (a++b)=(BX l nx a).bind λp=>BX p.1 p.2 b:=by
 unfold BX;rw[List.foldl_append]
 cases a.foldl (λ(o:Option (Vs×Int)) r=>o.bind λp=>Db p.1 p.2 r) (some (l,nx))with
 |none=>exact Np b
 |some p=>rfl
def OH (s:Store) (a:List CU) (o:Option (Store×Bool)):Prop:=match BX (AW s) s.Next a with
 |none=>o=some (s,false)
 |some (l,nx)=>∃t,o=some (t,true)/\Cx t/\AW t=l/\t.Next=nx
theorem Yx {s:Store} (h:Cx s) (a:List CU) (hr:a.length<=1048576):OH s a (LC s a):=by
 have hl:=h.len;have e:=PQ h.ar (by have:=h.few;omega);have c:=Jc s e (by omega);unfold LC;rw[c];simp only[Aa];obtain⟨b,h1,h2⟩:=AG (body:=λq:Int×List Vol×List BL×Int=>Gj s a q.1 q.2.1 q.2.2.1 q.2.2.2) (λ(t:Store) i=>(i,t.Vols,t.Arena.Knots,t.Next)) a.length
  (λi t=>Cx t/\BX (AW s) s.Next (a.take i)=some (AW t,t.Next))
  (λb=>(b= .inr (s,false)/\BX (AW s) s.Next a=none)\/∃t,b= .inl (t.Vols,t.Arena.Knots,t.Next)/\Cx t/\BX (AW s) s.Next a=some (AW t,t.Next))
  (λt i hi hs=>by
   obtain⟨hP,he⟩:=hs;have hx:=Ab hi;obtain⟨e1,e2⟩:=G6 hx;have et:a.take (i+1)=a.take i++ [a[i]]:=Af hi;simp only[Gj,FN hi,Ar,hx,Aa];have d:=iM hP a[i];unfold LX at d;have f:Store.mk t.Vols (Arena.mk t.Arena.Knots) t.Next=t:=rfl;rw[f]
   cases hv:Db (AW t) t.Next a[i]with
   |none=>grind [Iu,Eu]
   |some p=>
    rw[hv]at d;obtain⟨u,u1,u2,u3,u4⟩:=d;rw[u1];rw[ad1];refine .inl ⟨u,rfl,u2,?_⟩;rw[et,Iu,he,Aa,Eu,hv,Aa,u3,u4]
    rfl)
  (λt hs=>⟨_,by simp[Fe,Gj],.inr ⟨t,rfl,hs.1,by grind⟩⟩) (s:=s) ⟨h,rfl⟩
 rw[h1];unfold OH
 rcases h2 with⟨rfl,h2⟩|⟨t,rfl,h2,h3⟩
 ·rw[h2];rfl
 simp_all
def CA (r:List Ak):Int:=r.foldl (λm y=>if y.Page.Seq>=m then y.Page.Seq+1 else m) 1
def CW (r:List Ak):Int:=r.foldl (λm y=>if y.Page.Kind=2/\y.Page.Tx>=m then y.Page.Tx+1 else m) 1
def JU (l:List Tx):Int:=match l with
 |[]=>0
 |x::_=>x.Num
def JJ (l:List Tx):Vs×Int:=l.foldl (λp x=>(BX p.1 p.2 x.Recs).getD p) ([],1)
theorem VU (r:List Ak) (y:Ak):CA (r++ [y])=if y.Page.Seq>=CA r then y.Page.Seq+1 else CA r:=by unfold CA;grind
theorem VQ (r:List Ak) (y:Ak):CW (r++ [y])=if y.Page.Kind=2/\y.Page.Tx>=CW r then y.Page.Tx+1 else CW r:=by unfold CW;grind
theorem Ls (r:List Ak):(∀y∈r,y.Page.Seq<CA r)/\1<=CA r/\(∀b,1<=b->(∀y∈r,y.Page.Seq<b)->CA r<=b):=by
 induction r using Ps with
 |nil=>grind [CA]
 |app r x ih=>grind [VU]
theorem VP (r:List Ak):(∀y∈r,y.Page.Kind=2->y.Page.Tx<CW r)/\1<=CW r/\(∀b,1<=b->(∀y∈r,y.Page.Kind=2->y.Page.Tx<b)->CW r<=b):=by
 induction r using Ps with
 |nil=>grind [CW]
 |app r x ih=>grind [VQ]
theorem Vk (h:eK f r) (hf:Be f):GB r:=by
 have a:∀y∈r,(1<=y.Page.Seq/\y.Page.Seq<=1000000000)/\(1<=y.Page.Tx/\y.Page.Tx<=1000000000)/\(1<=y.Page.Count/\y.Page.Count<=9)/\(0<=y.Page.Part/\y.Page.Part<y.Page.Count):=by
  intro y hy;obtain⟨b,x,g1,g2,_,g3⟩:=h.page y hy;obtain⟨_,k1⟩:=C6 g1;obtain⟨_,k2⟩:=C6 g2;have hx:=hf.text b (Am k1) x<|Am k2;obtain⟨p,ok,m1,_,_,m2⟩:=GY x.Text (by omega);rw[g3]at m1
  injection m1 with m1
  injection m1 with m1 m3
  obtain⟨v,q1,_,q2⟩:=QG p
  grind
 exact⟨h.len,h.text,λy hy=>(a y hy).1,λy hy=>(a y hy).2.1,λy hy=>(a y hy).2.2.1,λy hy=>(a y hy).2.2.2⟩
theorem Wj (r:List Ak) (hr:GB r):Ai (λs:Int×Int×Int=>EQ r s.1 s.2.1 s.2.2) (0,1,1)=some (CA r,CW r):=by
 have a:=hr.len;obtain⟨b,h1,h2⟩:=AG (body:=λs:Int×Int×Int=>EQ r s.1 s.2.1 s.2.2) (λ(o:Int×Int) i=>(i,o.1,o.2)) r.length (λi o=>o=(CA<|r.take i,CW<|r.take i)) (λb=>b=(CA r,CW r))
  (λo i hi ho=>by
   subst ho;have hx:=Ab hi;have hm:r[i]∈r:=A4 hi;have hs:=hr.seq _ hm;have ht:=hr.tx _ hm;have et:r.take (i+1)=r.take i++ [r[i]]:=Af hi;simp only[EQ,FN hi,Ar,hx,Aa]
   grind [VU,VQ,BN])
  (λo ho=>⟨o,by simp[Fe,EQ],by grind⟩) (s:=(1,1)) rfl
 grind
theorem cN:Cx (Store.mk [] (Arena.mk []) 1):=by
 refine⟨⟨by simp,rfl,by simp,by simp,by simp,by simp[Bv],by simp[Bv],by simp⟩,by simp⟩
theorem SS (l:List Tx) (x:Tx):JJ (l++ [x])=(BX (JJ l).1 (JJ l).2 x.Recs).getD (JJ l):=by unfold JJ;grind
theorem S6 (l:List Tx) (hl:l.length<=1048576) (hr:∀x∈l,x.Recs.length<=20000):∃t,Ai (λs:Int×List Vol×List BL×Int×Int=>EP l s.1 s.2.1 s.2.2.1 s.2.2.2.1 s.2.2.2.2) (0,[],[],1,0)=some (t.Vols,t.Arena.Knots,t.Next,JU l)/\Cx t/\(AW t,t.Next)=JJ l:=by
 obtain⟨b,h1,t,h2,h3,h4⟩:=AG (body:=λs:Int×List Vol×List BL×Int×Int=>EP l s.1 s.2.1 s.2.2.1 s.2.2.2.1 s.2.2.2.2) (λ(o:Store×Int) i=>(i,o.1.Vols,o.1.Arena.Knots,o.1.Next,o.2)) l.length
  (λi o=>Cx o.1/\(AW o.1,o.1.Next)=JJ (l.take i)/\o.2=JU (l.take i)) (λb=>∃t,b=(t.Vols,t.Arena.Knots,t.Next,JU l)/\Cx t/\(AW t,t.Next)=JJ l)
  (λo i hi hs=>by
   obtain⟨t,bs0⟩:=o;obtain⟨hP,hv,hb⟩:=hs;simp only at hP hv hb;have hx:=Ab hi;have hm:l[i]∈l:=A4 hi;have h:=hr _ hm;have et:l.take (i+1)=l.take i++ [l[i]]:=Af hi;simp only[EP,FN hi,Ar,hx,Aa];have c:(cond ((i:Int)==0) (some l[i].Num) (some bs0):Option Int)=some (JU<|l.take<|i+1):=by
    by_cases e:i=0
    ·grind [JU]
    rw[show((i:Int)==0)=false by simp;omega,hb,et]
    cases h5:l.take i with
    |nil=>simp_all
    |cons a m=>rfl
   rw[c];have d:=Yx hP l[i].Recs (by omega);unfold OH at d;have f:Store.mk t.Vols (Arena.mk t.Arena.Knots) t.Next=t:=rfl;rw[f,ad1];refine .inl ?_;have j:=SS (l.take i) l[i]
   cases g:BX (AW t) t.Next l[i].Recs with
   |none=>simp_all;grind
   |some p=>simp_all;grind)
  (λo hs=>⟨(o.1.Vols,o.1.Arena.Knots,o.1.Next,o.2),by simp[Fe,EP],o.1,by grind,hs.1,by grind⟩) (s:=(Store.mk [] (Arena.mk []) 1,0)) ⟨cN,rfl,rfl⟩
 grind
structure IL (d:A0) (r:List Ak):Prop where
 fl:Be d.Flash
 scan:eK d.Flash r
 sr:SR (H0 0 d.Flash.Blocks) r
 st:Cx d.Store
 ab:(AW d.Store,d.Store.Next)=JJ (CD (AN r))
 seq:d.Seq=CA r
 tx:d.Tx=CW r
 base:d.Base=JU (CD (AN r))
theorem IL.pages (h:IL d r):GB r:=Vk h.scan h.fl
theorem Tk (hr:GB r):(AN r).length<=1048576/\∀x∈AN r,x.Recs.length<=20000:=by
 have b:=hr.len;have a:=FM r λy hy=>(hr.tx y hy).1;have:=List.length_filterMap_le (HH r)<|Dn r;refine⟨by unfold AN;omega,λx hx=>?_⟩;obtain⟨t,_,ht⟩:=List.mem_filterMap.1 hx;exact(OX hr ht).2
theorem UM (l:List Tx):(CD l).length<=l.length/\∀x∈CD l,x∈l:=⟨by unfold CD;grind,λx hx=>List.mem_of_mem_drop hx⟩
theorem Pq (hf:Be f):∃d r,BW f=some (d,true)/\IL d r/\d.Flash=f:=by
 obtain⟨r,hs,a⟩:=o8 hf;have hr:=Vk hs hf;obtain⟨g1,g2⟩:=Tk hr;obtain⟨b1,b2⟩:=UM<|AN r;obtain⟨t,t1,t2,t3⟩:=S6 (CD<|AN r) (by omega) λx hx=>g2 x<|b2 x hx;refine⟨A0.mk f t (CA r) (CW r)<|JU<|CD<|AN r,r,?_,⟨hf,hs,a,t2,t3,rfl,rfl,rfl⟩,rfl⟩;unfold BW;rw[Oa hf,hs.s,FQ f hf.cap];simp_all [Wj,Ra,S2,L3]
theorem X2 (a b:List Int) (ha:a.length<=1048576):Io a b=some (decide (a=b)):=by
 unfold Io;by_cases hl:a.length=b.length
 ·rw[show(ln a !=ln b)=false by simp[ln,hl]]
  rw[cA (body:=λs:Int=>Em a b s) a b (λx y=>x==y) hl (by omega)
   (λi x y hx hy=>by
    have hi:=(Ae.1 hx).1;simp only[Em,FN hi,Ar,hx,hy,Aa]
    grind [ad1])
   (by simp[Fe,Em])]
  have:=aK (p:=λx y:Int=>x==y) (a:=a) (b:=b) (λx _ y _=>by simp) hl
  grind
 rw[show(ln a !=ln b)=true by simp[ln];omega,Ag λhh=>hl<|by rw[hh]];rfl
theorem YG {a b:Store} (ha:Cx a) (hb:Cx b):Kj a b=some (decide (AW a=AW b/\a.Next=b.Next)):=by
 have c:=ha.len;have d:=hb.len;have e:=ha.few;have f:=hb.few;unfold Kj;by_cases hl:a.Vols.length=b.Vols.length
 ·rw[show(ln a.Vols !=ln b.Vols)=false by simp[ln,hl]];by_cases hn:a.Next=b.Next
  ·rw[show(a.Next !=b.Next)=false by simp[hn]]
   rw[cA (body:=λs:Int=>Fv a b s) a.Vols b.Vols (λv w=>v.Id==w.Id&&decide (DW a.Arena.Knots v.Root=DW b.Arena.Knots w.Root)) hl (by omega)
    (λi x y hx hy=>by
     have hi:=(Ae.1 hx).1;simp only[Fv,FN hi,Ar,hx,hy,Aa];rw[LG _ (by omega) ha.ar<|ha.root _<|Az.2 ⟨x,Am hx,rfl⟩,LG _ (by omega) hb.ar<|hb.root _<|Az.2 ⟨y,Am hy,rfl⟩]
     grind [X2,ad1,DW])
    (by simp[Fe,Fv])]
   have g:(a.Vols.zip b.Vols).all (λz=>z.1.Id==z.2.Id&&decide (DW a.Arena.Knots z.1.Root=DW b.Arena.Knots z.2.Root))=decide (AW a=AW b):=by
    unfold AW;generalize a.Vols=l at hl;generalize b.Vols=m at hl
    induction l generalizing m with
    |nil=>cases m with
     |nil=>simp
     |cons y m=>simp at hl
    |cons x l ih=>
     cases m with
     |nil=>simp at hl
     |cons y m=>grind [List.zip_cons_cons]
   grind
  grind
 grind [Ag,Nv,ln]
theorem QT (h:IL d r):KJ d=some d:=by
 have:=h.st.len;unfold KJ;rw[FQ _ h.fl.cap,Jc _ (PQ h.st.ar (by have:=h.st.few;omega))<|by omega];rfl
theorem IL.uniq {d':A0} (h:IL d r) (h':IL d' r') (e:d.Flash=d'.Flash):r=r':=by
 have h1:=h.sr;have h2:=h'.sr;rw[<-e]at h2;exact h1.uniq h2
theorem Wq (h:IL d r):LD d=some true:=by
 obtain⟨m,r',h1,h2,h3⟩:=Pq h.fl;obtain rfl:=h.uniq h2 h3.symm;unfold LD;rw[h1];simp only[Aa,Ah];have e:=h2.ab.trans h.ab.symm
 injection e with e1 e2
 rw[YG h2.st h.st,Ac ⟨e1,e2⟩];rw[h2.seq,h.seq,h2.tx,h.tx,h2.base,h.base];simp only[BEq.rfl,Ah];rw[QZ h.st];rfl
theorem Ts {f g:α->Option β} (h:∀x∈l,f x=g x):l.filterMap f=l.filterMap g:=by
 induction l with
 |nil=>rfl
 |cons a l ih=>grind
theorem ZJ {p q:α->Bool} (h:∀x∈l,p x=q x):l.find? p=l.find? q:=by
 induction l with
 |nil=>rfl
 |cons a l ih=>grind
theorem Rg (h:∀a b,Q3 r' t a b=Q3 r t a b):∀(n:Nat) (a b:Int) (x:List UInt8) (q:Int),parts r' t n a b x q=parts r t n a b x q
 |0,_,_,_,_=>rfl
 |n+1,a,b,x,q=>by
  simp only[parts,h];split
  ·split
   ·rfl
   exact Rg h n _ _ _ _
  rfl
theorem Oy (h:∀a b,Q3 r' t a b=Q3 r t a b):HH r' t=HH r t:=by grind [Rg,HH]
theorem SZ {t a b:Int} (h:eS t a b y=true):y.Page.Kind=2/\y.Page.Tx=t/\y.Page.Part=a:=by grind [eS]
theorem WL (r m:List Ak) (t a b:Int):Q3 (r++m) t a b=(Q3 r t a b).or (Q3 m t a b):=by unfold Q3;grind
theorem PJ {t a b:Int} (h:∀y∈r,y.Page.Kind=2->y.Page.Tx≠t):Q3 r t a b=none:=by grind [SZ,Q3]
theorem cJ (h:∀y∈r,y.Page.Kind=2->y.Page.Tx≠t):HH r t=none:=by grind [PJ,HH,parts]
theorem dK (r:List Ak) (hy:y.Page.Kind≠2):Dn (r++ [y])=Dn r:=by grind [P3]
theorem Rl (r:List Ak) (hy:y.Page.Kind≠2):AN (r++ [y])=AN r:=by
 unfold AN;rw[dK r hy];congr 1
 grind [Oy,WL,PJ]
structure VJ (m:List Ak) (t:Int) (n:Nat) (texts:List ByteArray):Prop where
 len:m.length<=n
 pos:1<=n/\n<=9
 tl:texts.length=n
 at_:∀(i:Nat) y,m[i]?=some y->y.Page.Kind=2/\y.Page.Tx=t/\y.Page.Part=i/\y.Page.Count=n/\texts[i]?=some y.Page.Text
theorem VJ.all (h:VJ m t n texts) (hy:y∈m):y.Page.Kind=2/\y.Page.Tx=t:=by
 obtain⟨i,hi,rfl⟩:=Au hy;obtain⟨h1,h2,_⟩:=h.at_ i _<|Ab hi;exact⟨h1,h2⟩
theorem gO (r:List Ak) (hr:∀y∈r,1<=y.Page.Tx) (ht:∀y∈r,y.Page.Kind=2->y.Page.Tx<t) (h0:1<=t):∀(m:List Ak),m≠ []->(∀y∈m,y.Page.Kind=2/\y.Page.Tx=t)->Dn (r++m)=Dn r++ [t]:=by
 intro m hm a;have h1:=FM (r++m) (λy hy=>by grind);have h2:=FM r hr
 refine WX h1.1 ?_ λx=>?_
 ·grind [asc]
 rw[h1.2.1,Aq,Bs,h2.2.1];constructor
 ·grind
 rintro(⟨y,hy,hk,rfl⟩|rfl)
 ·grind
 cases m with
 |nil=>exact absurd rfl hm
 |cons y m=>exact⟨y,by simp,(a y<|by simp).1,(a y<|by simp).2⟩
theorem mA (h:VJ m t n texts) {a:Nat} {b:Int} (hc:a=0\/b=n):Q3 m t a b=m[a]? :=by
 cases hy:m[a]? with
 |none=>
  unfold Q3;rw[Oc];intro y c hm;obtain⟨i,hi,rfl⟩:=Au c;obtain⟨_,_,h3,_⟩:=h.at_ i _<|Ab hi
  grind [SZ]
 |some y=>
  obtain⟨h1,h2,h3,h4,_⟩:=h.at_ a y hy;refine b9 m _ (λj x hj hx=>?_) hy ?_
  ·obtain⟨_,_,k3,_⟩:=h.at_ j x hx
   grind [SZ]
  grind [eS]
def KF (l:List ByteArray):List UInt8:=l.flatMap L
theorem Vi (hr:∀y∈r,y.Page.Kind=2->y.Page.Tx≠t) (h:VJ m t n texts):∀(k a:Nat) (c:Int) (x:List UInt8) (q:Int) (b:Nat),a+k=n->(a=0\/c=n)->k<b->
  (m.length=n->∃q',parts (r++m) t b a c x q=some (x++KF (texts.drop a),q'))/\(m.length<n->a<=m.length->parts (r++m) t b a c x q=none)
 |k,a,c,x,q,0,hk,hc,hf=>by omega
 |0,a,c,x,q,b+1,hk,hc,hf=>by
  have hp:=h.pos;simp only[parts];rw[AA<|by omega];refine⟨λ_=>⟨q,?_⟩,λh1 h2=>by omega⟩;rw[Eg (by have:=h.tl;omega)];simp[KF]
 |k+1,a,c,x,q,b+1,hk,hc,hf=>by
  have hp:=h.pos;simp only[parts];rw[Bc (by omega),WL,PJ hr,Option.none_or,mA h hc]
  cases hy:m[a]? with
  |none=>grind
  |some y=>
   obtain⟨h1,h2,h3,h4,h5⟩:=h.at_ a y hy;have d:=(Ae.1 hy).1;simp only[];obtain⟨k1,k2⟩:=Vi hr h k (a+1) y.Page.Count (x++L y.Page.Text) (Qr a q y) b (by omega) (.inr h4)<|by omega
   grind [AS,KF]
theorem ZE (r:List Ak) (hr:∀y∈r,1<=y.Page.Tx) (ht:∀y∈r,y.Page.Kind=2->y.Page.Tx<t) (h0:1<=t) (h:VJ m t n texts):
  (m.length<n->AN (r++m)=AN r)/\(m.length=n->∀a,Ve (bs (KF texts))=some a->∃q,AN (r++m)=AN r++ [Tx.mk t q a]):=by
 have b:∀y∈r,y.Page.Kind=2->y.Page.Tx≠t:=λy hy hk=>by grind
 have old:∀x∈Dn r,HH (r++m) x=HH r x:=by
  intro x hx;have:=FM r hr;obtain⟨y,hy,hk,rfl⟩:=(this.2.1 x).1 hx;have:=ht y hy hk
  refine Oy λd e=>?_
  rw[WL,PJ (r:=m) (λz hz f=>by rw[(h.all hz).2];omega),Option.or_none]
 have oldG:(Dn r).filterMap (HH<|r++m)=AN r:=by grind [Ts,AN]
 by_cases hm:m=[]
 ·subst hm;have:=h.pos
  grind
 have c:=gO r hr ht h0 m hm λy hy=>h.all hy;have hg:AN (r++m)=AN r++(match HH (r++m) t with|some x=>[x]|none=>[]):=by grind [AN]
 have hp:=h.pos;obtain⟨p1,p2⟩:=Vi b h n 0 0 [] 0 11 (by omega) (.inl rfl)<|by omega
 grind [HH]
structure YL (r:List Ak):Prop where
 uniq:∀y∈r,∀z∈r,y.Page.Kind=2->z.Page.Kind=2->y.Page.Tx=z.Page.Tx->y.Page.Part=z.Page.Part->y=z
theorem ZI (h:YL r) (p:Ak->Bool) {t a b:Int} (hf:Q3 (r.filter p) t a b=some y):Q3 r t a b=some y:=by
 obtain⟨h1,h2⟩:=Tq hf;have h3:=(AC.1 h1).1
 cases hz:Q3 r t a b with
 |none=>grind [Q3]
 |some z=>
  obtain⟨k1,k2⟩:=Tq hz;obtain⟨a1,a2,a3⟩:=SZ h2;obtain⟨b1,b2,b3⟩:=SZ k2;rw[h.uniq z k1 y h3 b1 a1 (by rw[a2,b2])<|by rw[a3,b3]]
theorem Py (h:YL r) (p:Ak->Bool):∀(n:Nat) (a b:Int) (x:List UInt8) (q:Int) (w:List UInt8×Int),parts (r.filter p) t n a b x q=some w->parts r t n a b x q=some w
 |0,_,_,_,_,_,hw=>by cases hw
 |n+1,a,b,x,q,w,hw=>by
  simp only[parts]at hw⊢;split
  ·rename_i hc;rw[Bc hc]at hw
   cases hf:Q3 (r.filter p) t a b with
   |none=>grind
   |some y=>
    rw[hf]at hw;rw[ZI h p hf];exact Py h p n _ _ _ _ w hw
  grind
theorem Xq {x:Tx} (h:YL r) (p:Ak->Bool) (hx:HH (r.filter p) t=some x):HH r t=some x:=by grind [Py,HH]
theorem ZF (r:List Ak) (hr:GB r):(AN r).Pairwise λx y=>x.Num<y.Num:=by
 have h1:=(FM r λy hy=>(hr.tx y hy).1).1;unfold AN;rw[List.pairwise_filterMap];refine List.Pairwise.imp ?_ h1
 grind [OX]
theorem PM (l:List α) (f:α->Option β) (q:β->Bool):(l.filterMap f).filter q=l.filterMap (λa=>(f a).filter q):=by
 induction l with
 |nil=>rfl
 |cons a l ih=>grind
theorem VR (r:List Ak) (hr:GB r) (h:YL r) (p:Ak->Bool) (hp:∀y∈r,y.Page.Kind=2->JU (CD (AN r))<=y.Page.Tx->p y=true):CD (AN (r.filter p))=CD (AN r):=by
 have hr':GB (r.filter p):=⟨by have:=Bz p r;have:=hr.len;omega,λy hy=>hr.text y (AC.1 hy).1,λy hy=>hr.seq y (AC.1 hy).1,λy hy=>hr.tx y (AC.1 hy).1,λy hy=>hr.cnt y (AC.1 hy).1,λy hy=>hr.part y (AC.1 hy).1⟩;have s1:=FM r λy hy=>(hr.tx y hy).1;have s2:=FM (r.filter p) λy hy=>(hr'.tx y hy).1;have e1:AN (r.filter p)=(Dn r).filterMap (HH<|r.filter p):=by
  have hn:Dn (r.filter p)=(Dn r).filter (λt=>decide<|t∈Dn (r.filter p)):=by
   refine WX s2.1 (List.Pairwise.filter _ s1.1) λx=>?_
   grind
  unfold AN
  grind [List.filterMap_filter,Ts,cJ]
 have keep:∀t,JU (CD<|AN r)<=t->HH (r.filter p) t=HH r t:=by
  intro t ht
  refine Oy λpart cnt=>?_
  grind [ZJ,Q3,eS]
 have e2:AN (r.filter p)=(AN r).filter λx=>(HH (r.filter p) x.Num).isSome:=by
  rw[e1];unfold AN;rw[PM]
  refine Ts λt ht=>?_
  cases hx:HH (r.filter p) t with
  |some x=>grind [Xq,OX]
  |none=>
   cases hy:HH r t with
   |none=>rfl
   |some x=>grind [OX]
 obtain⟨A,h1,h2,h3⟩:=Xz<|AN r;have a:=ZF r hr;have hB:(CD<|AN r).filter (λx=>(HH (r.filter p) x.Num).isSome)=CD (AN r):=by
  rw[Ee];intro x hx;have c:=(UM<|AN r).2 x hx;obtain⟨t,_,ht⟩:=List.mem_filterMap.1 c;have hn:=(OX hr ht).1;have d:JU (CD<|AN r)<=x.Num:=by
   rw[h1,AH]at a
   cases hb:CD (AN r)with
   |nil=>grind
   |cons b B=>grind [BZ,JU]
  grind
 rw[e2]
 conv=>lhs;rw[h1]
 rw[Cr,hB];refine fK _ _ (λe=>h2 λhA=>?_) h3
 grind
theorem V4:∀n:Nat,∃ds x,B3 n=ds++ [x]/\(∀d∈ds,128<=d.toNat)/\x.toNat<128/\DR (B3 n)=n
 |n=>by
  by_cases h:n<=127
  ·rw[Md h];have:(UInt8.ofNat n).toNat=n:=by rw[Ex];omega
   exact⟨[],_,rfl,by simp,by omega,by grind [DR]⟩
  obtain⟨ds,x,h1,h2,h3,h4⟩:=V4<|n/128
  grind [Tw,Ex,DR]
termination_by n=>n
decreasing_by omega
theorem JO (h:n<=1000000000):1<=(B3 n).length/\(B3 n).length<=5:=by grind [B3]
theorem YH (t:ByteArray) (ht:(L t).length<=20000) (a n:Nat) (hn:n<=1000000000) (d:List UInt8) (h:(L t).drop a=B3 n++d):GM t (a:Int)=some ((n:Int),((a+(B3 n).length:Nat):Int),true):=by
 obtain⟨ds,x,hD,o,hx,hv⟩:=V4 n;obtain⟨z,h0⟩:=JO hn;have y:(L t).length-a=(B3 n).length+d.length:=by
  have:=Ob List.length h
  grind
 have h1:(B3 n).length=ds.length+1:=by rw[hD];simp
 have p:∀k,k<=(B3 n).length->((L t).drop a).take k=(B3 n).take k:=λk hk=>by grind
 have q:∀(m k:Nat),k+m=ds.length->Ai (λs:Int×Int×Int=>Cq t (a:Int) s.1 s.2.1 s.2.2) (((DR ((B3 n).take k):Nat):Int),((128^k:Nat):Int),((a+k:Nat):Int))=some (.inr ((n:Int),((a+(B3 n).length:Nat):Int),true)):=by
  intro m
  induction m with
  |zero=>
   intro k hk;have r:k=ds.length:=by omega
   suffices e:Cq t (a:Int) ((DR ((B3 n).take k):Nat):Int) ((128^k:Nat):Int) ((a+k:Nat):Int)=some (.inr<|.inr ((n:Int),((a+(B3 n).length:Nat):Int),true)) by grind [Aw]
   simp only[Cq];have f:a+k<(L t).length:=by omega
   rw[BN (b:=5) (by omega) (by omega),Bf,Ac (by omega:((a+k:Nat):Int)<(a:Int)+5),Ac (by omega:((a+k:Nat):Int)<((L t).length:Int))];simp only[Ah,Aa,DF t f];have hb:(L t)[a+k]=x:=by
    have:((L t).drop a)[k]?=some x:=by simp_all
    grind
   rw[hb];have c:=Kb ds [x];rw[<-hD,hv]at c;have u:(B3 n).take k=ds:=by grind
   rw[u];simp only[DR,Nat.mul_zero,aD]at c;have hp:=Wz k (by omega);have hw:IntKind.i64.wrap (x.toNat:Int)=x.toNat:=KH (by omega) (by omega);have i:x.toNat %128*128^k<=127*268435456:=Ux (by omega) hp;have emul:ml ((x.toNat %128:Nat):Int) ((128^k:Nat):Int)=((x.toNat %128*128^k:Nat):Int):=by grind [KT]
   have g:=RB ds;rw[<-r]at g c;have enew:ad ((DR ds:Nat):Int) ((x.toNat %128*128^k:Nat):Int)=(n:Int):=by grind [BN]
   rw[hw,aN,emul,enew,Ac (by omega:(x.toNat:Int)<128),Ag (by omega:¬(n:Int)>1000000000),ad1];obtain⟨s,v,h2⟩:=GV n (by omega);rw[Eh t (by omega) (by omega),v]
   grind [Mr,H6]
  |succ m ih=>
   intro k hk;suffices e:Cq t (a:Int) ((DR ((B3 n).take k):Nat):Int) ((128^k:Nat):Int) ((a+k:Nat):Int)=some (.inl (((DR ((B3 n).take<|k+1):Nat):Int),((128^(k+1):Nat):Int),((a+(k+1):Nat):Int))) by grind [Aw]
   simp only[Cq];have f:a+k<(L t).length:=by omega
   rw[BN (b:=5) (by omega) (by omega),Bf,Ac (by omega:((a+k:Nat):Int)<(a:Int)+5),Ac (by omega:((a+k:Nat):Int)<((L t).length:Int))];simp only[Ah,Aa,DF t f];have w:k<ds.length:=by omega
   have h3:(B3 n)[k]?=some ds[k]:=by grind
   have hb:(L t)[a+k]=ds[k]:=by
    have:((L t).drop a)[k]?=some ds[k]:=by grind
    grind
   rw[hb];have h128:=o _<|A4 w;have hx:=Xp ds[k];have j:(B3 n).take (k+1)=(B3 n).take k++ [ds[k]]:=by grind [Dc]
   have l:((B3 n).take k).length=k:=by rw[Ev];omega
   have c:=Kb ((B3 n).take k) [ds[k]];rw[<-j,l]at c;have g:=RB<|(B3 n).take k;rw[l]at g;have hp:=Wz k (by omega);generalize ds[k]=x at hx j c h128;simp only[DR,Nat.mul_zero,aD]at c;have hw:IntKind.i64.wrap (x.toNat:Int)=x.toNat:=KH (by omega) (by omega);have i:x.toNat %128*128^k<=127*268435456:=Ux (by omega) hp;have emul:ml ((x.toNat %128:Nat):Int) ((128^k:Nat):Int)=((x.toNat %128*128^k:Nat):Int):=by grind [KT]
   have enew:ad (((DR ((B3 n).take k):Nat)):Int) ((x.toNat %128*128^k:Nat):Int)=((DR ((B3 n).take<|k+1):Nat):Int):=by
    rw[BN,c,Nat.mul_comm<|128^k];omega
   grind [KT,ad1]
 unfold GM;rw[Bf,CZ,Ac<|by omega];have k0:=q ds.length 0<|by omega
 grind [DR]
theorem HW (t:ByteArray) (ht:(L t).length<=20000) (a n:Nat) (hn:n<=1000000000) (b:List UInt8) (h:(L t).drop a=B3 n++b):CX (EB.mk t (a:Int) false)=some ((n:Int),EB.mk t ((a+(B3 n).length:Nat):Int) false):=by
 rw[GU t _ ht<|YH t ht a n hn b h];rfl
def Zt (r:CU):List UInt8:=UInt8.ofNat (16*r.Kind+r.Vol).toNat::(B3 r.Arg.toNat++B3 r.Chunk.toNat)
theorem Wx {r:CU} (h:F5 r=true):1<=r.Kind/\r.Kind<=5/\0<=r.Vol/\r.Vol<=9/\0<=r.Arg/\r.Arg<=1000000000/\0<=r.Chunk/\r.Chunk<=1000000000:=by
 unfold F5 at h
 cases k1:(r.Kind==1)with
 |true=>grind
 |false=>
  rw[k1]at h
  grind
theorem Wf {r:CU} (h:F5 r=true):∃t,N6 r=some (t,true)/\L t=Zt r:=by
 obtain⟨h1,h2,h3,h4,h5,h6,h7,h8⟩:=Wx h;obtain⟨sa,a1,a2⟩:=GV r.Arg.toNat (by omega);obtain⟨sc,c1,c2⟩:=GV r.Chunk.toNat (by omega);rw[AL h5]at a1;rw[AL h7]at c1;unfold N6 Jq;rw[N7,h];rw[KT (by omega) (by omega),BN,a1];simp only[Aa]
 grind [JO,FB,FE,KG,IntKind.wrap_u8,Zt]
def GR (l:List CU):List UInt8:=l.flatMap Zt
theorem fZ {r:CU} (h:F5 r=true):3<=(Zt r).length/\(Zt r).length<=11:=by
 obtain⟨h1,h2,h3,h4,h5,h6,h7,h8⟩:=Wx h
 grind [JO,Zt]
theorem Vd (t:ByteArray) (ht:(L t).length<=20000):∀(l:List CU) (a:Nat) (b:List CU),(∀r∈l,F5 r=true)->(L t).drop a=GR l->a<=(L t).length->b.length<=a->Ai (λs:List CU×ByteArray×Int×Bool=>Eb t s.1 s.2.1 s.2.2.1 s.2.2.2) (b,t,(a:Int),false)=some (.inl (b++l))
 |[],a,b,hl,h,ha,ho=>by
  have:(L t).length=a:=by simp_all [GR];grind
  grind [Aw,Bf,Eb]
 |r::l,a,b,hl,h,ha,ho=>by
  have hr:=hl r (by simp);obtain⟨h1,h2,h3,h4,h5,h6,h7,h8⟩:=Wx hr;have h':(L t).drop a=UInt8.ofNat (16*r.Kind+r.Vol).toNat::(B3 r.Arg.toNat++(B3 r.Chunk.toNat++GR l)):=by grind [GR,Zt]
  have c:a<(L t).length:=by grind
  have d:=AS c;rw[h']at d
  injection d with hx hd
  rw[Aw];simp only[Eb];rw[Bf,Ac<|by omega];rw[DF t c,ad1,Aa,HW t ht (a+1) r.Arg.toNat (by omega) _ hd.symm];simp only[Aa];have e:(L t).drop (a+1+(B3 r.Arg.toNat).length)=B3 r.Chunk.toNat++GR l:=by
   rw[<-De,<-hd,GD rfl]
  rw[HW t ht _ r.Chunk.toNat (by omega) _ e];simp only[Aa,Ad];have hw:IntKind.i64.wrap (((L t)[a]).toNat:Int)=16*r.Kind+r.Vol:=by grind [Ex,KH]
  have e1:qu (IntKind.i64.wrap (((L t)[a]).toNat:Int)) 16=r.Kind:=by grind [KH,qu]
  have e2:Int.tmod (IntKind.i64.wrap (((L t)[a]).toNat:Int)) 16=r.Vol:=by grind
  rw[e1,e2,AL h5,AL h7];have f:CU.mk r.Kind r.Vol r.Arg r.Chunk=r:=rfl;rw[f,N7,hr];rw[B5<|by grind];have g:(L t).drop (a+1+(B3 r.Arg.toNat).length+(B3 r.Chunk.toNat).length)=GR l:=by
   rw[<-De,e,GD rfl]
  have i:a+1+(B3 r.Arg.toNat).length+(B3 r.Chunk.toNat).length<=(L t).length:=by
   have h9:=Ob List.length h'
   grind
  have:=Vd t ht l _ (b++ [r]) (λx hx=>hl x<|by simp[hx]) g i (by simp;omega);rw[By,Hb]at this;exact this
theorem Zs {l:List CU} (hl:∀r∈l,F5 r=true) (a:(GR l).length<=20000):Ve (bs (GR l))=some l:=by
 have h:=Vd (bs<|GR l) (by grind [D0]) l 0 [] hl (by rw[D0];rfl) (by omega) (by simp);unfold Ve HT
 grind
theorem ZW {v:Int} (u:ByteArray) (hu:(L u).length<=20000) (hv:Kh u=some v):HR (u++four v)=some (u,true):=by
 have b:(L<|u++four v).length=(L u).length+4:=by rw[FE,A3,To]
 have e4:sb (Fd<|u++four v) 4=((L u).length:Int):=by grind [Bf,BH]
 unfold HR;rw[e4,Ag (by omega),Ag<|by omega];have c:sub (u++four v) 0 ((L u).length:Int)=some u:=by
  rw[show(0:Int)=((0:Nat):Int)from rfl,Eh _ (by omega)<|by omega]
  grind [H5,H6,FE]
 have a:sub (u++four v) ((L u).length:Int) (Fd<|u++four v)=some (four v):=by grind [Bf,Eh,H5,H6,FE]
 grind [HQ,four,seq]
def GS (p:Page):Prop:=(p.Kind=1\/p.Kind=2)/\(1<=p.Seq/\p.Seq<=1000000000)/\(1<=p.Tx/\p.Tx<=1000000000)/\(1<=p.Count/\p.Count<=9)/\(0<=p.Part/\p.Part<p.Count)/\(L p.Text).length<=90/\(p.Kind=2\/p.Count=1)
theorem S5 (p:Page):∃v,Hu p=some v/\(v=true↔GS p):=by
 unfold Hu GS;rw[CZ,CZ,CZ,CZ,Bf];simp only[Aa];by_cases h1:1<=p.Kind/\p.Kind<=2
 ·rw[Ac h1];by_cases h2:1<=p.Seq/\p.Seq<=1000000000
  ·rw[Ac h2];by_cases h3:1<=p.Tx/\p.Tx<=1000000000
   ·rw[Ac h3];by_cases h4:1<=p.Count/\p.Count<=9
    ·rw[Ac h4];rw[BH,CZ];by_cases h5:0<=p.Part/\p.Part<=p.Count-1
     ·rw[Ac h5];simp only[Ay,Ad,Aa];by_cases h6:((L p.Text).length:Int)>90
      ·simp_all;grind
      rw[Ag h6];by_cases h7:p.Kind=2
      ·rw[show(p.Kind==2)=true by simpa using h7]
       grind
      rw[show(p.Kind==2)=false by simpa using h7]
      grind
     simp_all;grind
    simp_all;grind
   simp_all;grind
  simp_all [Ag];grind
 simp_all [Ag];grind
theorem gD (h:GS p):Hu p=some true:=by
 obtain⟨v,h1,h2⟩:=S5 p;rw[h1,h2.2 h]
theorem dE (h:GS p):∃t,D4 p=some (t,true)/\1<=(L t).length/\(L t).length<=120/\D3 t=some (p,true):=by
 obtain⟨h1,h2,h3,h4,h5,h6,h7⟩:=h
 let k:UInt8:=UInt8.ofNat p.Kind.toNat
 have hk:(k.toNat:Int)=p.Kind:=by grind [Ex]
 let u:=bs<|[k]++B3 p.Seq.toNat++B3 p.Tx.toNat++B3 p.Part.toNat++B3 p.Count.toNat++L p.Text
 have hu:L u=[k]++B3 p.Seq.toNat++B3 p.Tx.toNat++B3 p.Part.toNat++B3 p.Count.toNat++L p.Text:=D0 _;have l1:=JO (show p.Seq.toNat<=1000000000 by omega);have l2:=JO (show p.Tx.toNat<=1000000000 by omega);have l3:=JO (show p.Part.toNat<=1000000000 by omega);have l4:=JO (show p.Count.toNat<=1000000000 by omega);have e:(L u).length=1+(B3 p.Seq.toNat).length+(B3 p.Tx.toNat).length+(B3 p.Part.toNat).length+(B3 p.Count.toNat).length+(L p.Text).length:=by grind
 obtain⟨v,hv,hs⟩:=(QE u).2 (by omega);have c:=gD ⟨h1,h2,h3,h4,h5,h6,h7⟩;have a:=Ry p u k p.Seq.toNat p.Tx.toNat p.Part.toNat p.Count.toNat c hk.symm (by omega) (by omega) (by omega) (by omega) (by omega) (by omega) (by omega) (by omega) (by omega) hu;rw[hs]at a;refine⟨u++four v,a,by grind [FE],by grind [FE,To],?_⟩;unfold D3;rw[ZW u (by omega) hv];simp only[Aa,Ay,Ad];rw[Bf,Ag<|by omega];have d0:(L u).drop 1=B3 p.Seq.toNat++(B3 p.Tx.toNat++(B3 p.Part.toNat++(B3 p.Count.toNat++L p.Text))):=by
  rw[hu];simp
 rw[show(1:Int)=((1:Nat):Int)from rfl,HW u (by omega) 1 p.Seq.toNat (by omega) _ d0];simp only[Aa];have d1:(L u).drop (1+(B3 p.Seq.toNat).length)=B3 p.Tx.toNat++(B3 p.Part.toNat++(B3 p.Count.toNat++L p.Text)):=by grind
 rw[HW u (by omega) _ p.Tx.toNat (by omega) _ d1];simp only[Aa];have d2:(L u).drop (1+(B3 p.Seq.toNat).length+(B3 p.Tx.toNat).length)=B3 p.Part.toNat++(B3 p.Count.toNat++L p.Text):=by grind [GD]
 rw[HW u (by omega) _ p.Part.toNat (by omega) _ d2];simp only[Aa];have d3:(L u).drop (1+(B3 p.Seq.toNat).length+(B3 p.Tx.toNat).length+(B3 p.Part.toNat).length)=B3 p.Count.toNat++L p.Text:=by grind [GD]
 rw[HW u (by omega) _ p.Count.toNat (by omega) _ d3];have d4:(L u).drop (1+(B3 p.Seq.toNat).length+(B3 p.Tx.toNat).length+(B3 p.Part.toNat).length+(B3 p.Count.toNat).length)=L p.Text:=by grind [GD]
 have d:sx u 0=some ((k.toNat:Nat):Int):=by
  rw[show(0:Int)=((0:Nat):Int)from rfl,DF u<|by omega];rfl
 rw[d];simp only[Aa];have b:sub u ((1+(B3 p.Seq.toNat).length+(B3 p.Tx.toNat).length+(B3 p.Part.toNat).length+(B3 p.Count.toNat).length:Nat):Int) ((L u).length:Int)=some p.Text:=by
  rw[Eh u (by omega)<|by omega]
  grind [H5,H6]
 rw[b,Aa,KH (by omega) (by omega),hk,AL (by omega),AL (by omega),AL (by omega),AL<|by omega];have hp:Page.mk p.Kind p.Seq p.Tx p.Part p.Count p.Text=p:=rfl;rw[hp,a]
 grind [seq]
theorem gC (h:¬GS p):D4 p=some (bs [],false):=by
 obtain⟨v,h1,h2⟩:=S5 p;unfold D4
 grind
theorem cW (s:ByteArray) (f a:Nat) (hf:f<a) (ha:a<=(L s).length) (hs:(L s).length<=64):∃k:Nat,JA s (f:Int) (a:Int)=some (k:Int)/\k<=31/\a+k<=(L s).length/\∀j,j<k->(L s)[f+j]?=(L s)[a+j]? :=by
 obtain⟨b,h1,k,rfl,h2,h3,h4⟩:=AG (body:=λn:Int=>Gf s (f:Int) (a:Int) n) (λ(_:Unit) i=>i) 31 (λi _=>a+i<=(L s).length/\∀j,j<i->(L s)[f+j]?=(L s)[a+j]?) (λb=>∃k:Nat,b=(k:Int)/\k<=31/\a+k<=(L s).length/\∀j,j<k->(L s)[f+j]?=(L s)[a+j]?)
  (λ_ i hi hs=>by
   simp only[Gf];rw[cT,BN,BN,Bf];by_cases c:a+i<(L s).length
   ·rw[cT];have e1:((f:Int)+(i:Int))=((f+i:Nat):Int):=by omega
    have e2:((a:Int)+(i:Int))=((a+i:Nat):Int):=by omega
    rw[e1,e2,DF s (by omega),DF s c];simp only[Aa]
    cases hq:((((L s)[f+i]).toNat:Int)==(((L s)[a+i]).toNat:Int))with
    |true=>
     rw[ad1];refine .inl ⟨(),rfl,by omega,λj hj=>?_⟩
     grind [UInt8.toNat_inj]
    |false=>grind
   grind)
  (λ_ hs=>by
   simp only[Gf];rw[cF]
   exact⟨_,rfl,31,rfl,by omega,hs.1,hs.2⟩) (s:=()) ⟨by omega,λj hj=>by omega⟩
 unfold JA
 grind
def iZ (s:ByteArray) (a z b:Nat):Prop:=z<=31/\a+z<=(L s).length/\(z=0\/(4<=z/\1<=b/\b<=a/\∀j,j<z->(L s)[a-b+j]?=(L s)[a+j]?))
theorem fP (s:ByteArray) (a:Nat) (ha:a<=(L s).length) (hs:(L s).length<=64):∃z b:Nat,Ai (λq:Int×Int×Int=>CO s (a:Int) q.1 q.2.1 q.2.2) (0,0,sb (a:Int) 1)=some ((z:Int),(b:Int))/\iZ s a z b:=by
 rw[BH];obtain⟨r,h1,z,b,rfl,h2⟩:=AG (body:=λq:Int×Int×Int=>CO s (a:Int) q.1 q.2.1 q.2.2) (λ(q:Nat×Nat) i=>((q.1:Int),(q.2:Int),(a:Int)-1-i)) a (λi q=>iZ s a q.1 q.2) (λr=>∃z b:Nat,r=((z:Int),(b:Int))/\iZ s a z b)
  (λq i hi hq=>by
   obtain⟨k,m1,m2,m3,m4⟩:=cW s (a-1-i) a (by omega) ha hs;have e1:((a:Int)-1-(i:Int))=((a-1-i:Nat):Int):=by omega
   simp only[CO,e1];rw[Ac (by omega:(((a-1-i:Nat)):Int)>=0),Ah,m1,Aa,BH,BH];refine .inl ?_;have e2:(((a-1-i:Nat):Int)-1)=(a:Int)-1-((i+1:Nat):Int):=by omega
   have e3:((a:Int)-((a-1-i:Nat):Int))=((1+i:Nat):Int):=by omega
   rw[e2,e3];by_cases h4:4<=k
   ·rw[cT];by_cases h5:q.1<k
    ·rw[Ac (by omega:(k:Int)>(q.1:Int))];exact⟨(k,1+i),rfl,m2,m3,.inr ⟨h4,by omega,by omega,λj hj=>by grind⟩⟩
    grind
   grind)
  (λq hq=>by grind [CO]) (s:=(0,0)) ⟨by omega,by omega,.inl rfl⟩
 grind
def Rp:Nat->Nat->List UInt8->List UInt8
 |0,_,out=>out
 |n+1,b,out=>Rp n b (out++ [(out[out.length-b]?).getD 0])
def Tv (a:List UInt8) (t:AE):List UInt8:=if t.Back=0 then a++L t.Text else Rp t.Size.toNat t.Back.toNat a
def D5 (l:List AE):List UInt8:=l.foldl Tv []
def oC (a:List UInt8) (t:AE):Prop:=(t.Back=0/\t.Size=0/\1<=(L t.Text).length/\(L t.Text).length<=31)\/(1<=t.Back/\t.Back<=(a.length:Int)/\1<=t.Size/\t.Size<=31/\L t.Text=[])
def gN (l:List AE):Prop:=∀(i:Nat) t,l[i]?=some t->oC (D5<|l.take i) t
theorem KQ (l:List AE) (t:AE):D5 (l++ [t])=Tv (D5 l) t:=by unfold D5;grind
theorem W6 {l:List AE} {t:AE} (h:gN l) (ht:oC (D5 l) t):gN (l++ [t]):=by
 intro i x hx;by_cases e:i<l.length
 ·rw[List.getElem?_append_left e]at hx;rw[List.take_append_of_le_length<|by omega];exact h i x hx
 grind
theorem gM {l:List AE} {t:AE} (h:gN (l++ [t])):gN l/\oC (D5 l) t:=by
 refine⟨λi x hx=>?_,?_⟩
 ·have:=h i x (by grind)
  grind
 have:=h l.length t<|by grind
 grind
theorem V8 (S:List UInt8):∀(n a b:Nat),a+n<=S.length->1<=b->b<=a->(∀j,j<n->S[a-b+j]?=S[a+j]?)->Rp n b (S.take a)=S.take (a+n)
 |0,a,b,_,_,_,_=>rfl
 |n+1,a,b,h1,h2,h3,h4=>by
  rw[Rp];have hl:(S.take a).length=a:=by grind
  have e:((S.take a)[(S.take a).length-b]?).getD 0=S[a]'(by omega):=by
   have:=h4 0<|by omega
   grind
  rw[e,<-Af (by omega),V8 S n (a+1) b (by omega) h2 (by omega) λj hj=>by grind];congr 1;omega
theorem Y1:∀(n b:Nat) (a:List UInt8),(Rp n b a).length=a.length+n
 |0,_,_=>rfl
 |n+1,b,a=>by rw[Rp,Y1];simp;omega
theorem Pb (s:ByteArray) (hs:(L s).length<=64):∀(n a:Nat) (c:List AE),(L s).length-a<=n->a<=(L s).length->c.length<=a->gN c->D5 c=(L s).take a->∃l,Ai (λq:List AE×Int=>BE s q.1 q.2) (c,(a:Int))=some l/\gN l/\D5 l=L s/\l.length<=64
 |n,a,c,hn,ha,g,d,hpl=>by
  by_cases h:a<(L s).length
  ·obtain⟨z,b,h1,h2,h3,h4⟩:=fP s a ha hs
   match n,hn with
   |0,hn=>omega
   |n+1,hn=>
   rcases h4 with rfl|⟨h4,h5,h6,h7⟩
   ·
    have f:sub s (a:Int) ((a+1:Nat):Int)=some (s.extract a<|a+1):=Eh s (by omega) (by omega);have hx:L (s.extract a<|a+1)=[(L s)[a]]:=by
     rw[H6,show a+1-a=1 by omega,AS h];rfl
    have fresh:∃l,Ai (λq:List AE×Int=>BE s q.1 q.2) (c++ [AE.mk 0 0<|s.extract a<|a+1],((a+1:Nat):Int))=some l/\gN l/\D5 l=L s/\l.length<=64:=
     Pb s hs n (a+1) _ (by omega) (by omega) (by simp;omega) (W6 d<|.inl ⟨rfl,rfl,by rw[hx];simp,by rw[hx];simp⟩) (by grind [KQ,Af,Tv])
    rcases E5 c with e|⟨out0,t0,e⟩
    ·subst e;obtain⟨l,f1,f2⟩:=fresh;rw[Aw];have hb:BE s [] (a:Int)=some (.inl ([AE.mk 0 0<|s.extract a<|a+1],((a+1:Nat):Int))):=by
      simp only[BE];rw[Bf,cT,h1];simp only[Aa];rw[show decide ((((0:Nat):Int))>0)=false from rfl,Ad,ad1,f,show decide ((sb (ln ([]:List AE)) 1)>=0)=false from rfl];rfl
     grind
    rw[Hc]at e;subst e;obtain⟨ok0,okt0⟩:=gM d;have hol':out0.length+1<=a:=by simpa using g
    have j:ln (out0++ [t0])=((out0.length+1:Nat):Int):=by rw[Bu];simp
    have k:sb (ln<|out0++ [t0]) 1=(out0.length:Int):=by grind [BH]
    have m:gi (out0++ [t0]) (out0.length:Int)=some t0:=E4 _ _;by_cases hm:t0.Back=0/\(L t0.Text).length<31
    ·have i:Q8 t0.Text (s.extract a<|a+1)=some (t0.Text++s.extract a (a+1)):=FB _ _ (by grind);have hb:BE s (out0++ [t0]) (a:Int)=some (.inl (out0++ [AE.mk t0.Back t0.Size<|t0.Text++s.extract a (a+1)],((a+1:Nat):Int))):=by
      simp only[BE];rw[Bf,cT,h1];simp only[Aa]
      grind [ad1,Bf,GJ]
     have hX:L (t0.Text++s.extract a (a+1))=L t0.Text++ [(L s)[a]]:=by rw[FE,hx]
     obtain⟨l,f1,f2⟩:=Pb s hs n (a+1) (out0++ [AE.mk t0.Back t0.Size<|t0.Text++s.extract a (a+1)]) (by omega) (by omega) (by grind) (W6 ok0 (by
      rcases okt0 with⟨k1,k2,k3,k4⟩|⟨k1,_⟩
      ·exact .inl ⟨k1,k2,by rw[hX];simp,by grind⟩
      omega))<|by grind [KQ,Af,Tv]
     grind [Aw]
    have hb:BE s (out0++ [t0]) (a:Int)=some (.inl (out0++ [t0]++ [AE.mk 0 0<|s.extract a<|a+1],((a+1:Nat):Int))):=by grind [Bf,ad1,B5,BE]
    grind [Aw]
   have hb:BE s c (a:Int)=some (.inl (c++ [AE.mk (b:Int) (z:Int)<|bs []],((a+z:Nat):Int))):=by grind [Bf,B5,BN,BE]
   obtain⟨l,f1,f2⟩:=Pb s hs n (a+z) (c++ [AE.mk (b:Int) (z:Int)<|bs []]) (by omega) h3 (by simp;omega) (W6 d<|.inr ⟨by simp;omega,by grind,by simp;omega,by simp;omega,D0 _⟩)<|by grind [KQ,V8,Tv]
   grind [Aw]
  grind [Aw,Bf,BE]
theorem jD (s:ByteArray) (hs:(L s).length<=64):∃l,HS s=some l/\gN l/\D5 l=L s/\l.length<=64:=by
 obtain⟨l,h1,h2⟩:=Pb s hs (L s).length 0 [] (by omega) (by omega) (by simp) (λi t h=>by simp at h)<|by simp[D5]
 grind [Bf,HS]
def JX (t:AE):List UInt8:=if t.Back=0 then UInt8.ofNat (L t.Text).length::L t.Text else [UInt8.ofNat (128+t.Size).toNat,UInt8.ofNat t.Back.toNat]
theorem bI {t:AE} {a:List UInt8} (h:oC a t) (ho:a.length<=64):(JX t).length<=32:=by
 unfold JX
 rcases h with⟨h1,h2,h3,h4⟩|⟨h1,h2,h3,h4,h5⟩
 ·grind
 grind
theorem mC {t:AE} {a:List UInt8} (h:oC a t):a.length<=(Tv a t).length:=by grind [Y1,Tv]
theorem JH {l:List AE} (h:gN l):∀i,i<=l.length->(D5 (l.take i)).length<=(D5 l).length:=by
 have step:∀i,i<l.length->(D5<|l.take i).length<=(D5<|l.take<|i+1).length:=λi hi=>by
  rw[Af hi,KQ];exact mC<|h i _<|Ab hi
 intro i hi;have:∀k,i+k<=l.length->(D5<|l.take i).length<=(D5<|l.take<|i+k).length:=by
  intro k
  induction k with
  |zero=>grind
  |succ k ih=>grind
 have:=this (l.length-i) (by omega);simp_all
theorem pD (s:ByteArray) (hs:(L s).length<=64):∃l,gN l/\D5 l=L s/\l.length<=64/\((Dh s=some (bs (122::l.flatMap JX),true))\/Dh s=some (bs (114::L s),true)):=by
 obtain⟨l,h1,h2,h3,h4⟩:=jD s hs;refine⟨l,h2,h3,h4,?_⟩;unfold Dh;rw[Bf,cF,h1];simp only[Aa];obtain⟨b,q1,q2⟩:=AG (body:=λq:ByteArray×Int=>Dv l q.1 q.2) (λz i=>(z,i)) l.length (λi z=>L z=122::(l.take i).flatMap JX/\(L z).length<=1+32*i) (λz=>L z=122::l.flatMap JX/\(L z).length<=3000)
  (λz i hi hz=>by
   have hx:=Ab hi;have c:=h2 i _ hx;have a:=JH h2 i (by omega);rw[h3]at a;have d:=bI c (by omega);have et:(l.take<|i+1).flatMap JX=(l.take i).flatMap JX++JX l[i]:=by grind [Af]
   simp only[Dv,FN hi,Ar,hx,Aa];rw[ad1];refine .inl ?_
   rcases c with⟨k1,k2,k3,k4⟩|⟨k1,k2,k3,k4,k5⟩
   ·grind [FB,FE,KG,Bf,IntKind.wrap_u8,JX]
   grind [BN,FB,FE,KG,IntKind.wrap_u8,JX])
  (λz hz=>⟨z,by simp[Fe,Dv],by grind,by omega⟩) (s:=bs [122]) ⟨by rw[D0];rfl,by rw[D0];simp⟩
 rw[q1];simp only[Aa];have hb:b=bs (122::l.flatMap JX):=H5<|by rw[q2.1,D0]
 cases decide (ad ((L s).length:Int) 1<=Fd b)with
 |false=>grind
 |true=>
  right;rw[FB _ _<|by grind [D0]];rfl
theorem Qe (t:ByteArray) (ht:(L t).length<=10000):∀(l:List AE) (a:Nat) (c:List AE),(∀x∈l,∃o:List UInt8,oC o x/\o.length<=64)->(L t).drop a=l.flatMap JX->a<=(L t).length->c.length<=a->Ai (λq:List AE×Int=>Bo t q.1 q.2) (c,(a:Int))=some (.inl (c++l))
 |[],a,c,hl,h,ha,ho=>by
  have:(L t).length=a:=by simp_all;grind
  grind [Aw,Bf,Bo]
 |x::l,a,c,hl,h,ha,ho=>by
  obtain⟨o,k,p⟩:=hl x (by simp);rw[List.flatMap_cons]at h;have d:=Ob List.length h;rw[Lk,A3]at d
  rcases k with⟨k1,k2,k3,k4⟩|⟨k1,k2,k3,k4,k5⟩
  ·have he:JX x=UInt8.ofNat (L x.Text).length::L x.Text:=by grind [JX]
   rw[he]at h d;rw[AM]at d;have f:a<(L t).length:=by omega
   have e:=AS f;rw[h,BV]at e
   injection e with hx hd
   have j:(((L t)[a]).toNat:Int)=((L x.Text).length:Int):=by grind [Ex]
   have n:sub t ((a+1:Nat):Int) ((a+1+(L x.Text).length:Nat):Int)=some x.Text:=by
    rw[Eh t (by omega)<|by omega]
    grind [H5,H6,List.take_left']
   have hb:Bo t c (a:Int)=some (.inl (c++ [AE.mk 0 0 x.Text],((a+1+(L x.Text).length:Nat):Int))):=by grind [Bf,DF,KH,BN,B5,Bo]
   have i:AE.mk 0 0 x.Text=x:=by
    cases x with
    |mk b z u=>grind
   rw[i]at hb;rw[Aw];simp only[hb];have:=Qe t ht l (a+1+(L x.Text).length) (c++ [x]) (λy hy=>hl y<|by simp[hy]) (by rw[<-De,<-hd,GD rfl]) (by omega) (by simp;omega)
   grind
  have he:JX x=[UInt8.ofNat (128+x.Size).toNat,UInt8.ofNat x.Back.toNat]:=by unfold JX;grind
  rw[he]at h d;simp only[AM,IW]at d;have f:a<(L t).length:=by omega
  have e:=AS f;rw[h]at e;simp only[BV,Ao]at e
  injection e with hx hd
  have g:=AS (show a+1<(L t).length by omega);rw[<-hd]at g
  injection g with hx2 hd2
  have j:(((L t)[a]).toNat:Int)=128+x.Size:=by grind [Ex]
  have m:(((L t)[a+1]'(by omega)).toNat:Int)=x.Back:=by grind [Ex]
  have hb:Bo t c (a:Int)=some (.inl (c++ [AE.mk x.Back x.Size<|bs []],((a+2:Nat):Int))):=by
   simp only[Bo];rw[Bf,cT,DF t f,Aa,j,KH (by omega) (by omega),cT,BN (b:=2) (by omega) (by omega),cF,ad1,DF t (by omega),Aa,m,KH (by omega) (by omega),BH,B5 (by simp;omega),Aa,show 128+x.Size-128=x.Size by omega];rfl
  have i:AE.mk x.Back x.Size (bs [])=x:=by
   cases x with
   |mk b z u=>grind [H5,D0]
  rw[i]at hb;rw[Aw];simp only[hb];have:=Qe t ht l (a+2) (c++ [x]) (λy hy=>hl y<|by simp[hy]) (by grind) (by omega) (by simp;omega)
  grind
def Gq (l:List UInt8):List Int:=l.map λc=>(c.toNat:Int)
theorem dJ (l:List UInt8):L (Gy (Gq l))=l:=by
 rw[KG,Gq,Ef];have:((λn:Int=>UInt8.ofNat n.toNat)∘λc:UInt8=>(c.toNat:Int))=id:=by
  funext c;simp
 rw[this,Mn]
theorem fO (b:ByteArray):cV b=Gq (L b):=rfl
theorem SI (x:AE) (b:1<=x.Back) (hs:0<=x.Size/\x.Size<=31):∀(n k:Nat) (a:List UInt8),(k:Int)+n=x.Size->x.Back<=(a.length:Int)->a.length+n<=1000->Ai (λq:List Int×Int=>C3 x q.1 q.2) (Gq a,(k:Int))=some (Gq (Rp n x.Back.toNat a))
 |0,k,a,hk,c,ho=>by
  rw[Aw];have hb:C3 x (Gq a) (k:Int)=some (.inr (Gq a)):=by grind [C3]
  simp only[hb];rfl
 |n+1,k,a,hk,c,ho=>by
  have d:ln (Gq a)=(a.length:Int):=by rw[Bu,Gq,Cf]
  have e:gi (Gq a) ((a.length:Int)-x.Back)=some (((a[a.length-x.Back.toNat]?).getD 0).toNat:Int):=by grind [Ar,Gq]
  have hb:C3 x (Gq a) (k:Int)=some (.inl (Gq<|a++ [(a[a.length-x.Back.toNat]?).getD 0],((k+1:Nat):Int))):=by grind [BH,B5,ad1,C3,Gq]
  rw[Aw];simp only[hb];rw[Rp];exact SI x b hs n (k+1) _ (by omega) (by simp;omega) (by simp;omega)
theorem Zv (l:List AE) (hl:l.length<=64) (a:gN l) (h64:(D5 l).length<=64):Ai (λq:List Int×Int=>CQ l q.1 q.2) ([],0)=some (.inl (Gq (D5 l))):=by
 obtain⟨b,h1,h2⟩:=AG (body:=λq:List Int×Int=>CQ l q.1 q.2) (λ(o:List UInt8) i=>(Gq o,i)) l.length (λi o=>o=D5 (l.take i)) (λb=>b= .inl (Gq<|D5 l))
  (λo i hi ho=>by
   have hx:=Ab hi;have hk:=a i _ hx;have hm:=JH a i (by omega);have c:=JH a (i+1) (by omega);have et:D5 (l.take<|i+1)=Tv o l[i]:=by grind [Af,KQ]
   rw[<-ho]at hk hm;rw[et]at c
   have d:∀q:List UInt8,ln (Gq q)=(q.length:Int):=λq=>by rw[Bu,Gq,Cf]
   simp only[CQ,FN hi,Ar,hx,Aa];refine .inl ⟨Tv o l[i],?_,et.symm⟩
   rcases hk with⟨k1,k2,k3,k4⟩|⟨k1,k2,k3,k4,k5⟩
   ·rw[show(l[i].Back==0)=true by simpa using k1,Ah,Bf,CZ,Ac<|by omega]
    grind [fO,ad1,ap,Gq,Tv]
   rw[show(l[i].Back==0)=false by simp;omega,Ad,d,CZ,Ac<|by omega];rw[CZ,Ac<|by omega];simp only[Aa,Ay,Ad];have e:seq l[i].Text (bs [])=true:=by grind [J4,H5,D0]
   grind [SI,ad1,Tv])
  (λo ho=>⟨.inl<|Gq o,by simp[Fe,CQ],by grind⟩) (s:=[]) rfl
 rw[<-h2];exact h1
theorem jC (s:ByteArray) (hs:(L s).length<=64):∃z,Dh s=some (z,true)/\DU z=some (s,true)/\1<=(L z).length:=by
 obtain⟨l,h1,h2,h3,h4⟩:=pD s hs;have fin:∀z:ByteArray,Dh s=some (z,true)->((Dh s).bind λv3=>(cond (!v3.2) (some true) (some<|!(seq v3.1 z)):Option Bool).bind λj2=>cond j2 (some (bs [],false))<|some (s,true))=some (s,true):=by grind [seq]
 rcases h4 with h4|h4
 ·refine⟨_,h4,?_,by rw[D0];simp⟩;have hf:=fin _ h4;generalize hz:bs (122::l.flatMap JX)=z at h4 hf;have hL:L z=122::l.flatMap JX:=by rw[<-hz,D0]
  have f:(L z).length<=3000:=by
   have:∀m:List AE,(∀x∈m,∃o:List UInt8,oC o x/\o.length<=64)->(m.flatMap JX).length<=32*m.length:=by
    intro m
    induction m with
    |nil=>intro _;simp
    |cons x m ih=>
     intro hm;obtain⟨o,g,h⟩:=hm x<|by simp
     grind [bI]
   have:=this l (λx hx=>by
    obtain⟨i,hi,rfl⟩:=Au hx;have hm:=JH h1 i (by omega);rw[h2]at hm
    exact⟨_,h1 i _<|Ab hi,by omega⟩)
   grind
  unfold DU;have a:1<=(L z).length:=by rw[hL];simp
  rw[Bf,show(((L z).length:Int)==0)=false by grind,Ad];have b:sub z 1 ((L z).length:Int)=some (bs<|l.flatMap JX):=by
   rw[show(1:Int)=((1:Nat):Int)from rfl,Eh z a<|A5 _]
   grind [H5,H6,D0]
  have c:sx z 0=some 122:=by
   rw[show(0:Int)=((0:Nat):Int)from rfl,DF z (i:=0) a];simp_all
  rw[b,c];simp only[Aa];rw[show((122:Int)==122)=true from rfl];have d:(L<|bs<|l.flatMap JX).length<=10000:=by rw[D0];grind
  have e:=Qe (bs<|l.flatMap JX) d l 0 [] (λx hx=>by
    obtain⟨i,hi,rfl⟩:=Au hx;have hm:=JH h1 i (by omega);rw[h2]at hm
    exact⟨_,h1 i _<|Ab hi,by omega⟩) (by rw[D0];rfl) (by omega)<|by simp
  rw[show((0:Nat):Int)=0 from rfl,Ao]at e
  grind [Zv,H5,dJ,I2,Ep]
 refine⟨_,h4,?_,by rw[D0];simp⟩;have hf:=fin _ h4;generalize hz:bs (114::L s)=z at h4 hf;have hL:L z=114::L s:=by rw[<-hz,D0]
 unfold DU;have a:1<=(L z).length:=by rw[hL];simp
 rw[Bf,show(((L z).length:Int)==0)=false by grind,Ad];have b:sub z 1 ((L z).length:Int)=some s:=by
  rw[show(1:Int)=((1:Nat):Int)from rfl,Eh z a<|A5 _]
  grind [H5,H6]
 have c:sx z 0=some 114:=by
  rw[show(0:Int)=((0:Nat):Int)from rfl,DF z (i:=0) a];simp_all
 grind
theorem iS (a b:List ByteArray):KF (a++b)=KF a++KF b:=by unfold KF;grind
def B4 (seq tx:Int) (T:List ByteArray):List Page:=T.mapIdx λi t=>Page.mk 2 (seq+i) tx i T.length t
theorem eH (a:List CU) (hr:a.length<=1048576) (d:∀r∈a,F5 r=true):∃T:List ByteArray,Ai (λs:List ByteArray×Int=>FK a s.1 s.2) ([bs []],0)=some (.inl T)/\1<=T.length/\T.length<=max 1 a.length/\KF T=GR a/\∀t∈T,(L t).length<=90:=by
 obtain⟨b,h1,T,h2,h3⟩:=AG (body:=λs:List ByteArray×Int=>FK a s.1 s.2) (λ(o:List ByteArray) i=>(o,i)) a.length
  (λi T=>1<=T.length/\(T.length<=max 1 i/\(i=0->T=[bs []]))/\KF T=GR (a.take i)/\∀t∈T,(L t).length<=90)
  (λb=>∃T:List ByteArray,b= .inl T/\1<=T.length/\T.length<=max 1 a.length/\KF T=GR a/\∀t∈T,(L t).length<=90)
  (λT i hi hT=>by
   obtain⟨g,⟨h,q⟩,j,k⟩:=hT;have hx:=Ab hi;obtain⟨t,t1,t2⟩:=Wf<|d _<|A4 hi;have l:=fZ<|d _<|A4 hi;rw[<-t2]at l;have et:GR (a.take<|i+1)=GR (a.take i)++L t:=by grind [Af,GR]
   rcases E5 T with e|⟨T0,c,e⟩
   ·grind
   rw[Hc]at e;subst e;have u:ln (T0++ [c])=((T0.length+1:Nat):Int):=by rw[Bu];simp
   rw[A3,Du]at g h;have m:sb (ln<|T0++ [c]) 1=(T0.length:Int):=by grind [BH]
   have n:gi (T0++ [c]) (T0.length:Int)=some c:=E4 _ _;have p:=k c (by simp);rw[iS]at j;simp only[FK,FN hi,Ar,hx,Aa];rw[t1];rw[m,n];simp only[Aa];rw[Bf,Bf,BN,ad1];refine .inl ?_;by_cases f:((L c).length:Int)+((L t).length:Int)>90
   ·have v:i≠0:=λe=>by grind [D0]
    grind [B5,KF]
   rw[Ag f,Ad,FB _ _<|by omega];simp only[Aa];rw[GJ];refine⟨T0++ [c++t],rfl,by simp,⟨by simp;omega,by omega⟩,?_,λx w=>?_⟩
   ·grind [FE,KF]
   grind [FE])
  (λT hT=>⟨_,by simp[Fe,FK],T,rfl,hT.1,hT.2.1.1,by grind,hT.2.2.2⟩) (s:=[bs []]) ⟨by simp,⟨by simp,λ_=>rfl⟩,by rfl,λt ht=>by grind [D0]⟩
 grind
theorem eI (seq tx:Int) (a:List CU) (hr:a.length<=1000) (c:∀r∈a,F5 r=true):∃T:List ByteArray,1<=T.length/\KF T=GR a/\(∀t∈T,(L t).length<=90)/\T.length<=max 1 a.length/\
  ((KK seq tx a=some (B4 seq tx T,true)/\T.length<=9/\1<=seq/\seq+T.length-1<=1000000000/\1<=tx/\tx<=1000000000)\/(KK seq tx a=some ([],false)/\¬(T.length<=9/\1<=seq/\seq+T.length-1<=1000000000/\1<=tx/\tx<=1000000000))):=by
 obtain⟨T,h1,h2,h2',h3,h4⟩:=eH a (by omega) c;refine⟨T,h2,h3,h4,h2',?_⟩;unfold KK;rw[h1];simp only[Aa,Ic];rw[Bu];by_cases h9:(T.length:Int)>9
 ·grind
 rw[Ag h9];rw[BH,BN,CZ,CZ];simp only[Aa];by_cases hs:1<=seq/\seq<=1000000000-(T.length:Int)+1
 ·rw[Ac hs];by_cases ht:1<=tx/\tx<=1000000000
  ·left;obtain⟨b,q1,q2⟩:=AG (body:=λs:List Page×Int=>Hm seq tx T s.1 s.2) (λ(o:List Page) i=>(o,i)) T.length (λi o=>o=(B4 seq tx T).take i) (λb=>b=B4 seq tx T)
    (λo i hi ho=>by grind [Ar,BN,Bu,B5,Dc,Hm,B4])
    (λo ho=>⟨o,by simp[Fe,Hm],by grind [AY,B4]⟩) (s:=[]) rfl
   grind
  grind
 grind
def Steps:Flash->List Bl->Flash->Prop
 |f,[],g=>g=f
 |f,s::ss,g=>O2 f s/\Steps (Jz f s) ss g
theorem Lh:∀(f:Flash) (a b:List Bl) (g:Flash),Steps f (a++b) g↔∃m,Steps f a m/\Steps m b g
 |f,[],b,g=>⟨λh=>⟨f,rfl,h⟩,λ⟨m,h1,h2⟩=>by rw[h1]at h2;exact h2⟩
 |f,s::a,b,g=>by
  rw[BV];simp only[Steps,Lh]
  grind
theorem RY:∀{f:Flash} {a:List Bl} {g:Flash},Be f->Steps f a g->Be g
 |f,[],g,hf,h=>by rw[h];exact hf
 |f,s::a,g,hf,h=>RY (kD hf h.1) h.2
theorem ZZ {m:Flash} (h:Steps f a m) (hs:O2 m s):Steps f (a++ [s]) (Jz m s):=(Lh f a [s] _).2 ⟨m,h,hs,rfl⟩
theorem XM (hf:Be f) (h:Steps f a g) (ha:a.length<=1048576):NA f a=some (g,(a.length:Int)):=by
 unfold NA;rw[FQ f hf.cap];simp only[Aa];obtain⟨b,h1,h2⟩:=AG (body:=λs:Int×List Block=>Hy a s.1 s.2) (λ(o:List Block) i=>(i,o)) a.length (λi o=>Steps f (a.take i) (Flash.mk o)/\Steps (Flash.mk o) (a.drop i) g) (λb=>b= .inl g.Blocks)
  (λo i hi hs=>by
   have hx:=Ab hi;obtain⟨s1,s2⟩:=hs;rw[AS hi]at s2;simp only[Hy,FN hi,Ar,hx,Aa];have hP:=RY hf s1
   rcases SA hP a[i]with⟨k1,k2⟩|⟨k1,k2⟩
   ·rw[k2];rw[ad1];refine .inl ⟨(Jz (Flash.mk o) a[i]).Blocks,rfl,?_,s2.2⟩;rw[Af hi];exact ZZ s1 k1
   exact absurd s2.1 k1)
  (λo hs=>⟨.inl o,by simp[Fe,Hy],by
   have:=hs.2;rw[List.drop_length]at this
   rw[show g=Flash.mk o from this]⟩) (s:=f.Blocks) ⟨rfl,h⟩
 rw[h1,h2];rfl
def FD:Flash->List Bl->List Page->Flash->Prop
 |f,[],[],g=>g=f
 |f,s::ss,p::ps,g=>s.Kind=1/\Yf f s.Block s.Leaf s.Text/\D3 s.Text=some (p,true)/\FD (Jz f s) ss ps g
 |_,_,_,_=>False
theorem DY:∀{f:Flash} {ss:List Bl} {ps:List Page} {g:Flash},FD f ss ps g->Steps f ss g/\ss.length=ps.length
 |f,[],[],g,h=>⟨h,rfl⟩
 |f,s::ss,p::ps,g,h=>⟨⟨.inl ⟨h.1,h.2.1⟩,(DY h.2.2.2).1⟩,by rw[AM,AM,(DY h.2.2.2).2]⟩
 |f,[],p::ps,g,h=>h.elim
 |f,s::ss,[],g,h=>h.elim
theorem TK:∀{f:Flash} {ss:List Bl} {ps:List Page} {g:Flash} {b l:Int} {t:ByteArray} {p:Page},FD f ss ps g->Yf g b l t->D3 t=some (p,true)->FD f (ss++ [Bl.mk 1 b l t]) (ps++ [p]) (Pw g b l (Leaf.mk 1 t))
 |f,[],[],g,b,l,t,p,h,h1,h2=>by
  have:g=f:=h;subst this;exact⟨rfl,h1,h2,by unfold Jz;rfl⟩
 |f,s::ss,q::ps,g,b,l,t,p,h,h1,h2=>⟨h.1,h.2.1,h.2.2.1,TK h.2.2.2 h1 h2⟩
 |f,[],q::ps,g,b,l,t,p,h,h1,h2=>h.elim
 |f,s::ss,[],g,b,l,t,p,h,h1,h2=>h.elim
def B6 (ss:List Bl) (ps:List Page):List Ak:=List.zipWith (λs p=>Ak.mk s.Block s.Leaf p) ss ps
def EE:Int->List Page->Prop
 |_,[]=>True
 |n,p::ps=>n<=p.Seq/\EE (p.Seq+1) ps
theorem TL:∀{f:Flash} {ss:List Bl} {ps:List Page} {g:Flash} {r:List Ak} {n:Int},Be f->SR (H0 0 f.Blocks) r->FD f ss ps g->(∀y∈r,y.Page.Seq<n)->EE n ps->SR (H0 0 g.Blocks) (r++B6 ss ps)
 |f,[],[],g,r,n,hf,a,h,hn,ha=>by
  have:g=f:=h;simp_all [B6]
 |f,s::ss,p::ps,g,r,n,hf,a,h,hn,ha=>by
  obtain⟨h1,h2,h3,h4⟩:=h;obtain⟨k1,_,A,B,k2,k3,_⟩:=OC hf h2;have c:Jz f s=Pw f s.Block s.Leaf (Leaf.mk 1 s.Text):=by grind [Jz]
  rw[c]at h4;have b:SR (H0 0 (Pw f s.Block s.Leaf<|Leaf.mk 1 s.Text).Blocks) (r++ [Ak.mk s.Block s.Leaf p]):=by
   rw[k3 p<|XS h3]
   refine SR.add (by grind) λx hx=>?_
   have:=hn x hx;have:=ha.1;show x.Page.Seq<p.Seq;omega
  have:=TL k1 b h4 (n:=p.Seq+1) (λy hy=>by
   rw[Aq,Bs]at hy
   rcases hy with hy|rfl
   ·have:=hn y hy;have:=ha.1;omega
   grind) ha.2
  rw[By]at this;exact this
 |f,[],q::ps,g,r,n,hf,a,h,hn,ha=>h.elim
 |f,s::ss,[],g,r,n,hf,a,h,hn,ha=>h.elim
theorem OS:∀{f:Flash} {ss:List Bl} {ps:List Page} {g:Flash} (k:Nat),FD f ss ps g->∃m,FD f (ss.take k) (ps.take k) m
 |f,[],[],g,k,h=>⟨f,by simp[FD]⟩
 |f,s::ss,p::ps,g,0,h=>⟨f,rfl⟩
 |f,s::ss,p::ps,g,k+1,h=>by
  obtain⟨m,hm⟩:=OS k h.2.2.2;exact⟨m,h.1,h.2.1,h.2.2.1,hm⟩
 |f,[],q::ps,g,k,h=>h.elim
 |f,s::ss,[],g,k,h=>h.elim
theorem gA {ss:List Bl} {ps:List Page} (hg:Be g) (h:FD f ss ps g) (hs:ss.length<=1000) (p:Page):
  (∃s g',Gc g ss p=some (g',ss++ [s],true)/\FD f (ss++ [s]) (ps++ [p]) g'/\Be g'/\GS p/\OD g s.Block s.Leaf)\/Gc g ss p=some (g,ss,false):=by
 by_cases hp:GS p
 ·obtain⟨t,t1,t2,t3,t4⟩:=dE hp
  rcases Sv hg ss (by omega) p t1 (λ_=>⟨t2,t3⟩)with⟨_,b,l,q1,_,q2⟩|q
  ·left;have hm:Yf g b l t:=by
    obtain⟨x,a1,a2,a3,a4⟩:=q1;exact⟨x,a1,a2,a3,a4,t2,t3⟩
   exact⟨_,_,q2,TK h hm t4,(OC hg hm).1,hp,q1⟩
  exact .inr q
 rcases Sv hg ss (by omega) p (gC hp) (λhh=>by cases hh)with⟨hh,_⟩|q
 ·cases hh
 exact .inr q
theorem SK (hf:Be f) (ps:List Page) (rt:Bool) (c:ps.length<=9) (a:List Page) (ss0:List Bl) (g0:Flash) (ok0:Bool) (h0:ok0=true->FD f ss0 a g0/\Be g0/\ss0.length<=1):
  ∃ss ok,Ai (λs:List Bl×Bool×Int×List Block=>DH (ps,rt) s.1 s.2.1 s.2.2.1 s.2.2.2) (ss0,ok0,0,g0.Blocks)=some (ss,ok)/\(ok=true->ok0=true/\∃g,FD f ss (a++ps) g/\Be g/\∀p∈ps,GS p):=by
 obtain⟨b,h1,h2⟩:=AG (body:=λs:List Bl×Bool×Int×List Block=>DH (ps,rt) s.1 s.2.1 s.2.2.1 s.2.2.2) (λ(o:List Bl×Bool×List Block) i=>(o.1,o.2.1,i,o.2.2)) ps.length
  (λi o=>o.2.1=true->ok0=true/\FD f o.1 (a++ps.take i) (Flash.mk o.2.2)/\Be (Flash.mk o.2.2)/\o.1.length<=i+1/\∀p∈ps.take i,GS p)
  (λb=>b.2=true->ok0=true/\∃g,FD f b.1 (a++ps) g/\Be g/\∀p∈ps,GS p)
  (λo i hi hs=>by
   obtain⟨ss,ok,bl⟩:=o;have hx:=Ab hi;simp only[DH,IV,Ac hi,Ah,Aa]
   cases ok with
   |false=>grind
   |true=>
    obtain⟨k0,k1,k2,k3,k4⟩:=hs rfl;simp only[Ah,Ar,hx,Aa];refine .inl ?_
    rcases gA k2 k1 (by omega) ps[i]with⟨s,g',q1,q2,q3,q4,_⟩|q
    ·rw[q1];rw[ad1];refine⟨(ss++ [s],true,g'.Blocks),rfl,λ_=>⟨k0,?_,q3,by simp;omega,λp hp=>?_⟩⟩
     ·simp_all
     grind [Af]
    rw[q];rw[ad1]
    simp)
  (λo hs=>⟨(o.1,o.2.1),by grind [IV,DH],λhh=>by grind⟩) (s:=(ss0,ok0,g0.Blocks)) (λhh=>by simp_all)
 grind
def BS (d:A0) (c:Int) (a:ByteArray):List Page:=if L a=[]then []else [Page.mk 1 d.Seq c 0 1 a]
def FW (d:A0) (a:ByteArray):Int:=if L a=[]then d.Seq else d.Seq+1
theorem Xa (hf:Be d.Flash) (j:0<=d.Seq/\d.Seq<=1000000001) (b:List CU) (h:b≠ []) (hr:b.length<=1000) (i:∀r∈b,F5 r=true) (a:ByteArray):
  C1 d b a=some ([],false)\/∃steps T g c,b[b.length-1]?=some c/\C1 d b a=some (steps,true)/\1<=T.length/\T.length<=9/\KF T=GR b/\(∀t∈T,(L t).length<=90)/\
   FD d.Flash steps (BS d c.Chunk a++B4 (FW d a) d.Tx T) g/\Be g/\(∀p∈BS d c.Chunk a++B4 (FW d a) d.Tx T,GS p)/\T.length<=max 1 b.length:=by
 have k:0<b.length:=IK.2 h;obtain⟨c,e⟩:∃c,b[b.length-1]?=some c:=⟨_,Ab<|by omega⟩;unfold C1;rw[show(ln b==0)=false by grind [Bu]];have first:∃ss0 g0 ok0,(cond (!(seq a<|bs [])) (((gi b<|sb (ln b) 1).bind λx1=>(Gc d.Flash []<|Page.mk 1 d.Seq x1.Chunk 0 1 a).bind λv1=>some (v1.2.1,v1.2.2,v1.1.Blocks):Option (List Bl×Bool×List Block)).bind λj2=>some (j2.1,ad d.Seq 1,j2.2.1,j2.2.2)) (some ([],d.Seq,true,d.Flash.Blocks)):Option (List Bl×Int×Bool×List Block))=some (ss0,FW d a,ok0,Flash.Blocks g0)/\(ok0=true->FD d.Flash ss0 (BS d c.Chunk a) g0/\Be g0/\ss0.length<=1/\∀p∈BS d c.Chunk a,GS p):=by
  by_cases ht:L a=[]
  ·have:seq a (bs [])=true:=by grind [J4,H5,D0]
   rw[this];refine⟨[],d.Flash,true,?_,λ_=>⟨?_,hf,by simp,?_⟩⟩
   ·grind [FW]
   ·unfold BS;rw[Bc ht];rfl
   unfold BS;grind
  have:seq a (bs [])=false:=by grind [J4,D0]
  rw[this];rw[Bu,BH,show(b.length:Int)-1=((b.length-1:Nat):Int) by omega,Ar,e,Aa,BN];have e1:FW d a=d.Seq+1:=by grind [FW]
  have e2:BS d c.Chunk a=[Page.mk 1 d.Seq c.Chunk 0 1 a]:=by grind [BS]
  rw[e1,e2]
  rcases gA (f:=d.Flash) (ss:=[]) (ps:=[]) hf rfl (by simp) (Page.mk 1 d.Seq c.Chunk 0 1 a)with⟨s,g',q1,q2,q3,q4,_⟩|q
  ·rw[q1];refine⟨_,g',true,rfl,λ_=>⟨q2,q3,by simp,λp hp=>?_⟩⟩
   grind
  rw[q];exact⟨_,d.Flash,false,rfl,λhh=>by cases hh⟩
 obtain⟨ss0,g0,ok0,e0,h0⟩:=first
 rw[e0];simp only[Aa];obtain⟨T,t1,t2,t3,tm,t4⟩:=eI (FW d a) d.Tx b hr i
 rcases t4 with⟨t4,t5,t6,t7,t8,t9⟩|⟨t4,_⟩
 ·rw[t4];simp only[Aa];obtain⟨ss,ok,q1,q2⟩:=SK hf (B4 (FW d a) d.Tx T) true (by unfold B4;grind) (BS d c.Chunk a) ss0 g0 ok0 λhh=>⟨(h0 hh).1,(h0 hh).2.1,(h0 hh).2.2.1⟩;rw[q1];simp only[Aa]
  grind
 rw[t4];obtain⟨ss,ok,q1,q2⟩:=SK hf [] false (by simp) (BS d c.Chunk a) ss0 g0 ok0 λhh=>⟨(h0 hh).1,(h0 hh).2.1,(h0 hh).2.2.1⟩
 grind
theorem PT (hf:Be d.Flash) (q:0<=d.Seq/\d.Seq<=1000000001) (h:List CU) (u:h≠ []) (hr:h.length<=1000) (v:∀r∈h,F5 r=true) (i:ByteArray):
  C1 d h i=some ([],false)\/∃steps T g j,h[h.length-1]?=some j/\C1 d h i=some (steps,true)/\1<=T.length/\T.length<=9/\KF T=GR h/\(∀t∈T,(L t).length<=90)/\
   FD d.Flash steps (BS d j.Chunk i++B4 (FW d i) d.Tx T) g/\Be g/\∀p∈BS d j.Chunk i++B4 (FW d i) d.Tx T,GS p:=
 (Xa hf q h u hr v i).imp id λ⟨s,T,g,l,a,b,c,e,f,k,m,n,o,_⟩=>⟨s,T,g,l,a,b,c,e,f,k,m,n,o⟩
def H8 (r:List Ak) (c:Int):Option Ak:=(r.filter<|H9 c).getLast?
noncomputable def Qb (t:ByteArray):Option ByteArray:=match DU t with
 |some (s,true)=>some s
 |_=>none
noncomputable def B9 (r:List Ak) (c:Int):Option ByteArray:=(H8 r c).bind λy=>Qb y.Page.Text
theorem PA:H9 c y=true↔y.Page.Kind=1/\y.Page.Tx=c:=by
 unfold H9
 grind
theorem SQ (h:H8 r c=some y):y∈r/\y.Page.Kind=1/\y.Page.Tx=c:=by
 have:=List.mem_of_getLast? h
 grind [PA]
theorem KR (r:List Ak) (y:Ak) (c:Int):H8 (r++ [y]) c=if y.Page.Kind=1/\y.Page.Tx=c then some y else H8 r c:=by simp_all [PA,H8];grind
theorem Vq (r m:List Ak) (h:∀y∈m,y.Page.Kind≠1) (c:Int):H8 (r++m) c=H8 r c:=by grind [PA,H8]
theorem Tj {y:α} (l:List α) (p:α->Bool) (h:l.getLast? =some y) (hp:p y=true):(l.filter p).getLast? =some y:=by
 rcases E5 l with e|⟨m,x,e⟩
 ·grind
 grind
theorem Yb (p:Ak->Bool) (h:H8 r c=some y) (hp:p y=true):H8 (r.filter p) c=some y:=by
 unfold H8 at h⊢;rw[Dz];have:r.filter (λa=>H9 c a&&p a)=(r.filter<|H9 c).filter p:=by grind [Dz]
 grind [Tj]
theorem SO {o:Option Nat} (h:Mu c r r.length o):H8 r c=o.bind λj=>r[j]? :=by
 cases o with
 |none=>
  unfold H8;have:r.filter (H9 c)=[]:=by
   rw[Dd];intro y hy;obtain⟨j,hj,rfl⟩:=Au hy;have:=h j r[j] hj<|Ab hj;rw[this];simp
  rw[this];rfl
 |some j=>
  obtain⟨h1,⟨y,h2,h3⟩,h4⟩:=h;unfold H8;obtain⟨e1,e2⟩:=G6 h2;have:(r.drop<|j+1).filter (H9 c)=[]:=by
   rw[Dd];intro z hz;obtain⟨k,hk,rfl⟩:=Au hz;rw[Lk]at hk;rw[List.getElem_drop];have:=h4 (j+1+k) _ (by omega) (by omega) (Ab<|by omega);rw[this];simp
  grind
theorem Zq (hr:r.length<=1048576) (c:Int):∃y ok,Iw r c=some (y,ok)/\H8 r c=(if ok=true then some y else none):=by
 obtain⟨o,h1,h2⟩:=Vp r hr c;have h3:=SO h2
 cases o with
 |none=>grind
 |some j=>
  obtain⟨_,⟨y,k1,_⟩,_⟩:=h2
  grind [Ia]
theorem XA (hr:GB r) (c:Int):∃u ok,HN r c=some (u,ok)/\B9 r c=(if ok=true then some u else none):=by
 obtain⟨y,ok,h1,h2⟩:=Zq hr.len c;unfold HN B9;rw[h1,h2]
 cases ok with
 |false=>simp
 |true=>
  have hy:=(SQ (by rw[h2];rfl)).1;obtain⟨u,ok2,k1,_,_⟩:=Ou y.Page.Text (by have:=hr.text y hy;omega)
  grind [Qb]
structure Gt (r:List Ak):Prop where
 pages:GB r
 inc:r.Pairwise λx y=>x.Page.Seq<y.Page.Seq
 mu:YL r
def CM (l:Vs) (c:Int):Prop:=0<c/\∃p∈l,c∈p.2
structure Ew (r:List Ak) (P:Int->Prop):Prop where
 data:∀c,P c->∃s,B9 r c=some s
 dist:∀c c',P c->P c'->B9 r c=B9 r c'->c=c'
theorem Ew.mono {Q:Int->Prop} (h:Ew r P) (hq:∀c,Q c->P c):Ew r Q:=⟨λc hc=>h.data c<|hq c hc,λc c' hc hc'=>h.dist c c' (hq c hc)<|hq c' hc'⟩
theorem Ew.congr (h:Ew r P) (he:∀c,P c->B9 r' c=B9 r c):Ew r' P:=⟨λc hc=>by rw[he c hc];exact h.data c hc,λc c' hc hc' e=>h.dist c c' hc hc'<|by grind⟩
theorem Ew.metas (h:Ew r P) (hm:∀y∈m,y.Page.Kind≠1):Ew (r++m) P:=h.congr λc _=>by grind [Vq,B9]
theorem YR (h:Ew r P) (hy:¬P y.Page.Tx):Ew (r++ [y]) P:=h.congr λc hc=>by grind [KR,B9]
theorem YS (h:Ew r P) (hy:Qb y.Page.Text=B9 r y.Page.Tx):Ew (r++ [y]) P:=h.congr λc hc=>by grind [KR,B9]
theorem eP {s:ByteArray} (h:Ew r P) (hk:y.Page.Kind=1) (hn:¬P y.Page.Tx) (ht:Qb y.Page.Text=some s) (hs:∀c,P c->B9 r c≠some s):Ew (r++ [y]) (λc=>P c\/c=y.Page.Tx):=by
 have b:B9 (r++ [y]) y.Page.Tx=some s:=by grind [KR,B9]
 have a:∀c,P c->B9 (r++ [y]) c=B9 r c:=λc hc=>by grind [KR,B9]
 refine⟨λc hc=>?_,λc c' hc hc' e=>?_⟩
 ·rcases hc with hc|rfl
  ·rw[a c hc];exact h.data c hc
  grind
 rcases hc with hc|rfl<;>rcases hc' with hc'|rfl
 ·exact h.dist c c' hc hc'<|by grind
 ·grind
 ·grind
 rfl
theorem Gt.filter (h:Gt r) (p:Ak->Bool):Gt (r.filter p):=by
 refine⟨⟨by have:=Bz p r;have:=h.pages.len;omega,λy hy=>h.pages.text y (AC.1 hy).1,λy hy=>h.pages.seq y (AC.1 hy).1,λy hy=>h.pages.tx y (AC.1 hy).1,λy hy=>h.pages.cnt y (AC.1 hy).1,λy hy=>h.pages.part y (AC.1 hy).1⟩,h.inc.filter _,⟨λy hy z hz=>h.mu.uniq y (AC.1 hy).1 z (AC.1 hz).1⟩⟩
theorem Gt.add (h:Gt r) (hl:r.length<=1000000) (hb:GS y.Page) (hs:CA r<=y.Page.Seq) (hm:y.Page.Kind=2->∀z∈r,z.Page.Kind=2->z.Page.Tx=y.Page.Tx->z.Page.Part≠y.Page.Part):Gt (r++ [y]):=by
 obtain⟨b1,b2,b3,b4,b5,b6,b7⟩:=hb
 have all:∀{P:Ak->Prop},(∀z∈r,P z)->P y->∀z∈r++ [y],P z:=λh1 h2 z hz=>by grind
 refine⟨⟨by simp;omega,all h.pages.text b6,all h.pages.seq b2,all h.pages.tx b3,all h.pages.cnt b4,all h.pages.part b5⟩,?_,⟨λu hu v hv k1 k2 e1 e2=>?_⟩⟩
 ·rw[AH];refine⟨h.inc,Jw _ _,λu hu v hv=>?_⟩;rw[Bs]at hv;rw[hv];have:=(Ls r).1 u hu;omega
 rw[Aq,Bs]at hu hv
 rcases hu with hu|rfl<;>rcases hv with hv|rfl
 ·exact h.mu.uniq u hu v hv k1 k2 e1 e2
 ·grind
 ·grind
 rfl
theorem UO (h:CA r<=y.Page.Seq):CA (r++ [y])=y.Page.Seq+1:=by rw[VU,Bc h]
theorem Gt.metas (h:Gt r) (ht:∀y∈r,y.Page.Kind=2->y.Page.Tx<t):∀(m:List Ak) (k:Nat),r.length+m.length<=1000000->(∀(i:Nat) y,m[i]?=some y->y.Page.Kind=2/\y.Page.Tx=t/\y.Page.Part=i/\y.Page.Seq=CA r+i/\GS y.Page)->k<=m.length->Gt (r++m.take k)/\CA (r++m.take k)=CA r+k
 |m,0,_,_,_=>by simpa using h
 |m,k+1,hl,hm,hk=>by
  obtain⟨ih1,ih2⟩:=Gt.metas h ht m k hl hm (by omega);have hx:m[k]?=some m[k]:=Ab (by omega);obtain⟨k1,k2,k3,k4,k5⟩:=hm k _ hx;rw[Af (by omega),<-By];refine⟨Gt.add ih1 (by simp;omega) k5 (by grind) λ_ z hz a b=>?_,?_⟩
  ·grind [Au]
  grind [UO]
end Go.TI
