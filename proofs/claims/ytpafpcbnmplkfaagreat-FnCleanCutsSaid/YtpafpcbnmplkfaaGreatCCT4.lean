/- What walks of Go code need. No condition. -/
import Derived.Test.YtpafpcbnmplkfaaGreatCCT3
import Derived.Laws.BitsLemmas
set_option linter.unusedVariables false
namespace Go.TI
open Go
variable {γ β S S' σ α β':Type} {r:Nat} {body':S'->Option (S'⊕β)} {b:List γ} {a:List γ} {s:σ} {c:List γ} {lt:γ->γ->Bool} {X:List γ}
theorem hJ {body:S->Option (S⊕β)} (a:σ->Int->S) (mkS':σ->Int->S') (n:Nat) (c:Nat->σ->Prop) (Q:β->Prop) (h1:∀s i,i<n->c i s->(∃s',body (a s (i:Nat))=some (.inl (a s' ((i+1:Nat):Int)))/\body' (mkS' s (i:Nat))=some (.inl (mkS' s' ((i+1:Nat):Int)))/\c (i+1) s')\/∃b,body (a s (i:Nat))=some (.inr b)/\body' (mkS' s (i:Nat))=some (.inr b)/\Q b) (h2:∀s,c n s->∃b,body (a s (n:Nat))=some (.inr b)/\body' (mkS' s (n:Nat))=some (.inr b)/\Q b):∀(k i:Nat) (s:σ),i+k=n->c i s->∃b,Aw body (a s (i:Nat))=some b/\Aw body' (mkS' s (i:Nat))=some b/\Q b
 |0,i,s,hi,hs=>by
  have:i=n:=by omega
  subst this;obtain⟨b,h3,h4,h5⟩:=h2 s hs;exact⟨b,by rw [A8,h3],by rw [A8,h4],h5⟩
 |k+1,i,s,hi,hs=>by
  rcases h1 s i (by omega) hs with⟨s',h3,h4,h5⟩|⟨b,h3,h4,h5⟩
  ·obtain⟨b,h6,h7,h8⟩:=hJ a mkS' n c Q h1 h2 k (i+1) s' (by omega) h5;exact⟨b,by rw [A8,h3];exact h6,by rw [A8,h4];exact h7,h8⟩
  exact⟨b,by rw [A8,h3],by rw [A8,h4],h5⟩
theorem QF {body:S->Option (S⊕β)} (a:σ->Int->S) (mkS':σ->Int->S') (n:Nat) (c:Nat->σ->Prop) (Q:β->Prop) (h1:∀s i,i<n->c i s->(∃s',body (a s (i:Nat))=some (.inl (a s' ((i+1:Nat):Int)))/\body' (mkS' s (i:Nat))=some (.inl (mkS' s' ((i+1:Nat):Int)))/\c (i+1) s')\/∃b,body (a s (i:Nat))=some (.inr b)/\body' (mkS' s (i:Nat))=some (.inr b)/\Q b) (h2:∀s,c n s->∃b,body (a s (n:Nat))=some (.inr b)/\body' (mkS' s (n:Nat))=some (.inr b)/\Q b) (hs:c 0 s):∃b,Aw body (a s 0)=some b/\Aw body' (mkS' s 0)=some b/\Q b:=
 hJ a mkS' n c Q h1 h2 n 0 s (by omega) hs
theorem Vh {body:S->Option (S⊕β)} (φ:S->S') (h:∀s,body' (φ s)=(body s).map (Sum.map φ id)):∀(n:Nat) (s:S),OV body' n (φ s)=OV body n s
 |0,_=>rfl
 |n+1,s=>by
  simp only [OV,h]
  cases body s with
  |none=>rfl
  |some o=>
   cases o with
   |inl s'=>exact Vh φ h n s'
   |inr b=>rfl
theorem AAm {body:S->Option (S⊕β)} (φ:S->S') (h:∀s,body' (φ s)=(body s).map (Sum.map φ id)) (s:S):Aw body' (φ s)=Aw body s:=by
 have b:∀a,Aw body' (φ s)=some a↔Aw body s=some a:=λa=>by
  rw [H0,H0];exact⟨λ⟨n,hn⟩=>⟨n,by rw [<-Vh φ h];exact hn⟩,λ⟨n,hn⟩=>⟨n,by rw [Vh φ h];exact hn⟩⟩
 cases hx:Aw body s with
 |some a=>exact(b a).2 hx
 |none=>
  cases hy:Aw body' (φ s)with
  |none=>rfl
  |some a=>rw [(b a).1 hy]at hx;cases hx
theorem Sz {body:S->Option (S⊕β)} (φ:S->S') (I:S->Prop) (h:∀s,I s->body' (φ s)=(body s).map (Sum.map φ id)) (hI:∀s s',I s->body s=some (.inl s')->I s'):∀(n:Nat) (s:S),I s->OV body' n (φ s)=OV body n s
 |0,_,_=>rfl
 |n+1,s,hs=>by
  simp only [OV,h s hs]
  cases hb:body s with
  |none=>rfl
  |some o=>
   cases o with
   |inl s'=>exact Sz φ I h hI n s' (hI s s' hs hb)
   |inr b=>rfl
theorem uI {body:S->Option (S⊕β)} (φ:S->S') (I:S->Prop) (h:∀s,I s->body' (φ s)=(body s).map (Sum.map φ id)) (hI:∀s s',I s->body s=some (.inl s')->I s') (s:S) (hs:I s):Aw body' (φ s)=Aw body s:=by
 have b:∀a,Aw body' (φ s)=some a↔Aw body s=some a:=λa=>by
  rw [H0,H0];exact⟨λ⟨n,hn⟩=>⟨n,by rw [<-Sz φ I h hI n s hs];exact hn⟩,λ⟨n,hn⟩=>⟨n,by rw [Sz φ I h hI n s hs];exact hn⟩⟩
 cases hx:Aw body s with
 |some a=>exact(b a).2 hx
 |none=>
  cases hy:Aw body' (φ s)with
  |none=>rfl
  |some a=>rw [(b a).1 hy]at hx;cases hx
theorem ACB {s:S} {b:β} {body:S->Option (S⊕β)} (I:S->Prop) (Q:β->Prop) (hI:∀s s',I s->body s=some (.inl s')->I s') (hQ:∀s b,I s->body s=some (.inr b)->Q b) (hs:I s) (h:Aw body s=some b):Q b:=by
 obtain⟨n,hn⟩:=H0.1 h;clear h
 induction n generalizing s with
 |zero=>cases hn
 |succ n ih=>
  simp only [OV]at hn;split at hn
  ·cases hn
  ·rename_i s' hb;exact ih (hI s s' hs hb) hn
  rename_i b' hb
  injection hn with hn
  subst hn;exact hQ s b' hs hb
theorem Zs {body':S'->Option (S'⊕β')} {body:S->Option (S⊕β)} (a:σ->Int->S) (mkS':σ->Int->S') (n:Nat) (c:Nat->σ->Prop) (Q:β->β'->Prop) (h1:∀s i,i<n->c i s->(∃s',body (a s (i:Nat))=some (.inl (a s' ((i+1:Nat):Int)))/\body' (mkS' s (i:Nat))=some (.inl (mkS' s' ((i+1:Nat):Int)))/\c (i+1) s')\/∃b b',body (a s (i:Nat))=some (.inr b)/\body' (mkS' s (i:Nat))=some (.inr b')/\Q b b') (h2:∀s,c n s->∃b b',body (a s (n:Nat))=some (.inr b)/\body' (mkS' s (n:Nat))=some (.inr b')/\Q b b'):∀(k i:Nat) (s:σ),i+k=n->c i s->∃b b',Aw body (a s (i:Nat))=some b/\Aw body' (mkS' s (i:Nat))=some b'/\Q b b'
 |0,i,s,hi,hs=>by
  have:i=n:=by omega
  subst this;obtain⟨b,b',h3,h4,h5⟩:=h2 s hs;exact⟨b,b',by rw [A8,h3],by rw [A8,h4],h5⟩
 |k+1,i,s,hi,hs=>by
  rcases h1 s i (by omega) hs with⟨s',h3,h4,h5⟩|⟨b,b',h3,h4,h5⟩
  ·obtain⟨b,b',h6,h7,h8⟩:=Zs a mkS' n c Q h1 h2 k (i+1) s' (by omega) h5;exact⟨b,b',by rw [A8,h3];exact h6,by rw [A8,h4];exact h7,h8⟩
  exact⟨b,b',by rw [A8,h3],by rw [A8,h4],h5⟩
theorem ACA {body':S'->Option (S'⊕β')} {body:S->Option (S⊕β)} (a:σ->Int->S) (mkS':σ->Int->S') (n:Nat) (c:Nat->σ->Prop) (Q:β->β'->Prop) (h1:∀s i,i<n->c i s->(∃s',body (a s (i:Nat))=some (.inl (a s' ((i+1:Nat):Int)))/\body' (mkS' s (i:Nat))=some (.inl (mkS' s' ((i+1:Nat):Int)))/\c (i+1) s')\/∃b b',body (a s (i:Nat))=some (.inr b)/\body' (mkS' s (i:Nat))=some (.inr b')/\Q b b') (h2:∀s,c n s->∃b b',body (a s (n:Nat))=some (.inr b)/\body' (mkS' s (n:Nat))=some (.inr b')/\Q b b') (hs:c 0 s):∃b b',Aw body (a s 0)=some b/\Aw body' (mkS' s 0)=some b'/\Q b b':=
 Zs a mkS' n c Q h1 h2 n 0 s (by omega) hs
theorem Rx {body body':S->Option (S⊕β)} (m:S->Nat) (a:S->Prop) (Q:β->Prop) (h:∀s,a s->(∃s',body s=some (.inl s')/\body' s=some (.inl s')/\a s'/\m s'<m s)\/∃b,body s=some (.inr b)/\body' s=some (.inr b)/\Q b):∀(n:Nat) (s:S),m s<=n->a s->∃b,Aw body s=some b/\Aw body' s=some b/\Q b
 |n,s,hn,hs=>by
  rcases h s hs with⟨s',h1,h2,h3,h4⟩|⟨b,h1,h2,h3⟩
  ·cases n with
   |zero=>omega
   |succ n=>
    obtain⟨b,h5,h6,h7⟩:=Rx m a Q h n s' (by omega) h3;exact⟨b,by rw [A8,h1];exact h5,by rw [A8,h2];exact h6,h7⟩
  exact⟨b,by rw [A8,h1],by rw [A8,h2],h3⟩
theorem Qe (z:α->Nat):∀(l:List α) (i:Nat) (h:i<l.length),((l.take (i+1)).map z).sum=((l.take i).map z).sum+z l[i]
 |[],i,h=>by simp at h
 |x::l,0,h=>by simp
 |x::l,i+1,h=>by
  simp only [L4,BF,FJ,List.getElem_cons_succ];rw [Qe z l i (by simpa using h)];omega
theorem Nk (z:α->Nat) (l:List α) (i:Nat):((l.take i).map z).sum<=(l.map z).sum:=by
 have:(l.map z).sum=((l.take i).map z).sum+((l.drop i).map z).sum:=by
  rw [<-List.sum_append,<-CD,Br]
 omega
theorem pQ (a:List α) (x:α) (post:List α):gi (a++x::post) (a.length:Nat)=some x:=by
 rw [AC,AS (A4 _)];simp
theorem jN (a:List α) (x y:α) (post:List α):si (a++x::post) (a.length:Nat) y=a++y::post:=by
 rw [Gs,List.set_append_right _ _ (A4 _)];simp
noncomputable section
def Ea (lt:γ->γ->Bool) (xA:Int) (xB:Int) (xN:Int) (a:Int) (b:List γ):Option ((Int×List γ)⊕(List γ)):=
 bif(decide (a<xN))then((yA b (ad xA a) (ad xB a)).bind λv1=>
 some (.inl ((ad a 1),v1)))
 else(some (.inr b))
def Dh (lt:γ->γ->Bool) (xL:List γ) (xA:Int) (xB:Int) (xN:Int):Option (List γ):=
 (Aw (λs:Int×List γ=>Ea lt xA xB xN s.1 s.2) (0,xL)).bind λv2=>
 some v2
def EU (lt:γ->γ->Bool) (xM:Int) (a:Int) (b:Int) (c:List γ):Option ((Int×Int×List γ)⊕(Int×List γ)):=
 bif(a !=b)then(bif(decide (a>b))then((Dh lt c (sb xM a) xM b).bind λv1=>
 some (.inl ((sb a b),b,v1)))
 else((Dh lt c (sb xM a) (sb (ad xM b) a) a).bind λv2=>
 some (.inl (a,(sb b a),v2))))
 else(some (.inr (a,c)))
def Fv (lt:γ->γ->Bool) (xL:List γ) (xA:Int) (xM:Int) (xB:Int):Option (List γ):=
 (Aw (λs:Int×Int×List γ=>EU lt xM s.1 s.2.1 s.2.2) ((sb xM xA),(sb xB xM),xL)).bind λv3=>
 (Dh lt v3.2 (sb xM v3.1) xM v3.1).bind λv4=>
 some v4
def Bq (lt:γ->γ->Bool) (xA:Int) (a:Int) (b:List γ):Option ((Int×List γ)⊕(List γ)):=
 (bif(decide (a>xA))then((gi2 b a (sb a 1)).bind λv1=>
 some (lt v1.1 v1.2))
 else(some false):Option (Bool)).bind λj1=>
 bif j1 then((yA b a (sb a 1)).bind λv2=>
 some (.inl ((sb a 1),v2)))
 else(some (.inr b))
def Bv (lt:γ->γ->Bool) (xA:Int) (xB:Int) (a:Int) (b:List γ):Option ((Int×List γ)⊕(List γ)):=
 bif(decide (a<xB))then((Aw (λs:Int×List γ=>Bq lt xA s.1 s.2) (a,b)).bind λv3=>
 some (.inl ((ad a 1),v3)))
 else(some (.inr b))
def BT (lt:γ->γ->Bool) (xL:List γ) (xA:Int) (xB:Int):Option (List γ):=
 (Aw (λs:Int×List γ=>Bv lt xA xB s.1 s.2) ((ad xA 1),xL)).bind λv4=>
 some v4
def E0 (lt:γ->γ->Bool) (xL:List γ) (xA:Int) (a:Int) (b:Int):Option ((Int×Int)⊕(Int)):=
 bif(decide (a<b))then((gi2 xL (IntKind.i64.wrap (Int.fdiv (IntKind.u64.wrap (ad a b)) (2^(min (1:Int).toNat IntKind.u64.bits)))) xA).bind λv1=>
 bif(lt v1.1 v1.2)then(some (.inl ((ad (IntKind.i64.wrap (Int.fdiv (IntKind.u64.wrap (ad a b)) (2^(min (1:Int).toNat IntKind.u64.bits)))) 1),b)))
 else(some (.inl (a,(IntKind.i64.wrap (Int.fdiv (IntKind.u64.wrap (ad a b)) (2^(min (1:Int).toNat IntKind.u64.bits))))))))
 else(some (.inr a))
def DD (lt:γ->γ->Bool) (v2:Int) (a:Int) (b:List γ):Option ((Int×List γ)⊕(List γ)):=
 bif(decide (a<(sb v2 1)))then((yA b a (ad a 1)).bind λv3=>
 some (.inl ((ad a 1),v3)))
 else(some (.inr b))
def Ez (lt:γ->γ->Bool) (xL:List γ) (xM:Int) (a:Int) (b:Int):Option ((Int×Int)⊕(Int)):=
 bif(decide (a<b))then((gi2 xL xM (IntKind.i64.wrap (Int.fdiv (IntKind.u64.wrap (ad a b)) (2^(min (1:Int).toNat IntKind.u64.bits))))).bind λv5=>
 bif(!(lt v5.1 v5.2))then(some (.inl ((ad (IntKind.i64.wrap (Int.fdiv (IntKind.u64.wrap (ad a b)) (2^(min (1:Int).toNat IntKind.u64.bits)))) 1),b)))
 else(some (.inl (a,(IntKind.i64.wrap (Int.fdiv (IntKind.u64.wrap (ad a b)) (2^(min (1:Int).toNat IntKind.u64.bits))))))))
 else(some (.inr a))
def DC (lt:γ->γ->Bool) (v6:Int) (a:Int) (b:List γ):Option ((Int×List γ)⊕(List γ)):=
 bif(decide (a>v6))then((yA b a (sb a 1)).bind λv7=>
 some (.inl ((sb a 1),v7)))
 else(some (.inr b))
def Ey (lt:γ->γ->Bool) (xL:List γ) (xA:Int) (xM:Int) (xB:Int) (a:Int) (b:Int):Option ((Int×Int)⊕(Int)):=
 bif(decide (a<b))then((gi2 xL (sb (sb (ad (IntKind.i64.wrap (Int.fdiv (IntKind.u64.wrap (ad xA xB)) (2^(min (1:Int).toNat IntKind.u64.bits)))) xM) 1) (IntKind.i64.wrap (Int.fdiv (IntKind.u64.wrap (ad a b)) (2^(min (1:Int).toNat IntKind.u64.bits))))) (IntKind.i64.wrap (Int.fdiv (IntKind.u64.wrap (ad a b)) (2^(min (1:Int).toNat IntKind.u64.bits))))).bind λv9=>
 bif(!(lt v9.1 v9.2))then(some (.inl ((ad (IntKind.i64.wrap (Int.fdiv (IntKind.u64.wrap (ad a b)) (2^(min (1:Int).toNat IntKind.u64.bits)))) 1),b)))
 else(some (.inl (a,(IntKind.i64.wrap (Int.fdiv (IntKind.u64.wrap (ad a b)) (2^(min (1:Int).toNat IntKind.u64.bits))))))))
 else(some (.inr a))
def CM (lt:γ->γ->Bool):Nat->(List γ)->Int->Int->Int->Option (List γ)
 |0,_,_,_,_=>none
 |n+1,xL,xA,xM,xB=>
 bif((sb xM xA)==1)then((Aw (λs:Int×Int=>E0 lt xL xA s.1 s.2) (xM,xB)).bind λv2=>
 (Aw (λs:Int×List γ=>DD lt v2 s.1 s.2) (xA,xL)).bind λv4=>
 some v4)
 else(bif((sb xB xM)==1)then((Aw (λs:Int×Int=>Ez lt xL xM s.1 s.2) (xA,xM)).bind λv6=>
 (Aw (λs:Int×List γ=>DC lt v6 s.1 s.2) (xM,xL)).bind λv8=>
 some v8)
 else((bif(decide (xM>(IntKind.i64.wrap (Int.fdiv (IntKind.u64.wrap (ad xA xB)) (2^(min (1:Int).toNat IntKind.u64.bits))))))then(some ((sb (ad (IntKind.i64.wrap (Int.fdiv (IntKind.u64.wrap (ad xA xB)) (2^(min (1:Int).toNat IntKind.u64.bits)))) xM) xB),(IntKind.i64.wrap (Int.fdiv (IntKind.u64.wrap (ad xA xB)) (2^(min (1:Int).toNat IntKind.u64.bits))))))
 else(some (xA,xM)):Option (Int×Int)).bind λj1=>
 (Aw (λs:Int×Int=>Ey lt xL xA xM xB s.1 s.2) (j1.1,j1.2)).bind λv10=>
 (bif(decide (v10<xM))then(some (decide (xM<(sb (ad (IntKind.i64.wrap (Int.fdiv (IntKind.u64.wrap (ad xA xB)) (2^(min (1:Int).toNat IntKind.u64.bits)))) xM) v10))))
 else(some false):Option (Bool)).bind λj2=>
 (bif j2 then((Fv lt xL v10 xM (sb (ad (IntKind.i64.wrap (Int.fdiv (IntKind.u64.wrap (ad xA xB)) (2^(min (1:Int).toNat IntKind.u64.bits)))) xM) v10)).bind λv11=>
 some v11)
 else(some xL):Option (List γ)).bind λj3=>
 (bif(decide (xA<v10))then(some (decide (v10<(IntKind.i64.wrap (Int.fdiv (IntKind.u64.wrap (ad xA xB)) (2^(min (1:Int).toNat IntKind.u64.bits)))))))
 else(some false):Option (Bool)).bind λj4=>
 (bif j4 then((CM lt n j3 xA v10 (IntKind.i64.wrap (Int.fdiv (IntKind.u64.wrap (ad xA xB)) (2^(min (1:Int).toNat IntKind.u64.bits))))).bind λv12=>
 some v12)
 else(some j3):Option (List γ)).bind λj5=>
 bif(decide ((IntKind.i64.wrap (Int.fdiv (IntKind.u64.wrap (ad xA xB)) (2^(min (1:Int).toNat IntKind.u64.bits))))<(sb (ad (IntKind.i64.wrap (Int.fdiv (IntKind.u64.wrap (ad xA xB)) (2^(min (1:Int).toNat IntKind.u64.bits)))) xM) v10)))then(bif(decide ((sb (ad (IntKind.i64.wrap (Int.fdiv (IntKind.u64.wrap (ad xA xB)) (2^(min (1:Int).toNat IntKind.u64.bits)))) xM) v10)<xB))then((CM lt n j5 (IntKind.i64.wrap (Int.fdiv (IntKind.u64.wrap (ad xA xB)) (2^(min (1:Int).toNat IntKind.u64.bits)))) (sb (ad (IntKind.i64.wrap (Int.fdiv (IntKind.u64.wrap (ad xA xB)) (2^(min (1:Int).toNat IntKind.u64.bits)))) xM) v10) xB).bind λv13=>
 some v13)
 else(some j5))
 else(some j5)))
def Di (lt:γ->γ->Bool) (xN:Int) (b:Int) (a:Int) (c:List γ):Option ((Int×Int×List γ)⊕(Int×List γ)):=
 bif(decide (a<=xN))then((BT lt c b a).bind λv1=>
 some (.inl (a,(ad a 20),v1)))
 else(some (.inr (b,c)))
def D5 (lt:γ->γ->Bool) (xN:Int) (a:Int) (c:Int) (b:Int) (d:List γ):Option ((Int×Int×List γ)⊕(Int×List γ)):=
 bif(decide (b<=xN))then((CM lt (List.length d+1) d c (ad c a) b).bind λv4=>
 some (.inl (b,(ad b (ml 2 a)),v4)))
 else(some (.inr (c,d)))
def D6 (lt:γ->γ->Bool) (xN:Int) (a:Int) (b:List γ):Option ((Int×List γ)⊕(List γ)):=
 bif(decide (a<xN))then((Aw (λs:Int×Int×List γ=>D5 lt xN a s.1 s.2.1 s.2.2) (0,(ml 2 a),b)).bind λv5=>
 bif(decide ((ad v5.1 a)<xN))then((CM lt (List.length v5.2+1) v5.2 v5.1 (ad v5.1 a) xN).bind λv6=>
 some (.inl ((ml a 2),v6)))
 else(some (.inl ((ml a 2),v5.2))))
 else(some (.inr b))
def Dz (lt:γ->γ->Bool) (xL:List γ) (xN:Int):Option (List γ):=
 (Aw (λs:Int×Int×List γ=>Di lt xN s.1 s.2.1 s.2.2) (0,20,xL)).bind λv2=>
 (BT lt v2.2 v2.1 xN).bind λv3=>
 (Aw (λs:Int×List γ=>D6 lt xN s.1 s.2) (20,v3)).bind λv7=>
 some v7
def Zq (xX:Int):Option (Int):=
 (bif(decide (xX>=4294967296))then(some ((Int.fdiv xX (2^(min (32:Int).toNat IntKind.u64.bits))),32))
 else(some (xX,0)):Option (Int×Int)).bind λj1=>
 (bif(decide (j1.1>=65536))then(some ((Int.fdiv j1.1 (2^(min (16:Int).toNat IntKind.u64.bits))),(ad j1.2 16)))
 else(some (j1.1,j1.2)):Option (Int×Int)).bind λj2=>
 (bif(decide (j2.1>=256))then(some ((Int.fdiv j2.1 (2^(min (8:Int).toNat IntKind.u64.bits))),(ad j2.2 8)))
 else(some (j2.1,j2.2)):Option (Int×Int)).bind λj3=>
 (sx (bs [0,1,2,2,3,3,3,3,4,4,4,4,4,4,4,4,5,5,5,5,5,5,5,5,5,5,5,5,5,5,5,5,6,6,6,6,6,6,6,6,6,6,6,6,6,6,6,6,6,6,6,6,6,6,6,6,6,6,6,6,6,6,6,6,7,7,7,7,7,7,7,7,7,7,7,7,7,7,7,7,7,7,7,7,7,7,7,7,7,7,7,7,7,7,7,7,7,7,7,7,7,7,7,7,7,7,7,7,7,7,7,7,7,7,7,7,7,7,7,7,7,7,7,7,7,7,7,7,8,8,8,8,8,8,8,8,8,8,8,8,8,8,8,8,8,8,8,8,8,8,8,8,8,8,8,8,8,8,8,8,8,8,8,8,8,8,8,8,8,8,8,8,8,8,8,8,8,8,8,8,8,8,8,8,8,8,8,8,8,8,8,8,8,8,8,8,8,8,8,8,8,8,8,8,8,8,8,8,8,8,8,8,8,8,8,8,8,8,8,8,8,8,8,8,8,8,8,8,8,8,8,8,8,8,8,8,8,8,8,8,8,8,8,8,8,8,8,8,8,8,8,8,8,8,8,8]) (IntKind.u8.wrap j3.1)).bind λx1=>
 some (ad j3.2 (IntKind.i64.wrap x1))
def Vn (xX:Int):Option (Int):=
 (Zq xX).bind λv1=>
 some v1
def Gf (lt:γ->γ->Bool) (xL:List γ) (xA:Int) (xB:Int):Option ((Unit)⊕((Unit)⊕((List γ)))):=
 bif(decide ((sb xB xA)<=12))then((BT lt xL xA xB).bind λv1=>
 some (.inr (.inr v1)))
 else(none)
def EN (lt:γ->γ->Bool) (xL:List γ) (xA:Int) (xB:Int) (a:Int):Option (List γ):=
 (Aw (λ_:Unit=>Gf lt xL xA xB) ()).bind (Sum.elim (λv2=>(some xL)) some)
def Qn (lt:γ->γ->Bool) (l:List γ):Option (List γ):=(Vn (IntKind.u64.wrap (ln l))).bind λv=>EN lt l 0 (ln l) v
end
def srt (a:γ->Int) (l:List γ):Prop:=l.Pairwise λx y=>a x<=a y
section
variable (key:γ->Int)
def Ch (l r:List γ):Prop:=∀k,r.filter (λx=>key x==k)=l.filter (λx=>key x==k)
end
theorem Ch.refl (a:γ->Int) (l:List γ):Ch a l l:=λ_=>rfl
theorem Ch.trans (d:γ->Int) (h:Ch d a b) (k:Ch d b c):Ch d a c:=λx=>(k x).trans (h x)
theorem G6 (e:γ->Int) {d:List γ} (h:Ch e a b) (k:Ch e c d):Ch e (a++c) (b++d):=λx=>by rw [AT,AT,h,k]
section
variable (key:γ->Int)
theorem Ch.mem {x:γ} (h:Ch key a b):x∈b↔x∈a:=by
 have:=h (key x);have e:x∈b.filter (λy=>key y==key x)↔x∈a.filter (λy=>key y==key x):=by rw [this]
 simpa using e
end
section
variable (key:γ->Int)
theorem Ch.nil (h:Ch key [] b):b=[]:=by
 cases b with
 |nil=>rfl
 |cons x b=>exact absurd ((h.mem (x:=x)).1 CK) (by simp)
end
section
variable (key:γ->Int)
theorem Ch.swap (h:∀x∈a,∀y∈b,key y<key x):Ch key (a++b) (b++a):=by
 intro k;rw [AT,AT];by_cases ha:a.filter (λx=>key x==k)=[]
 ·rw [ha];simp
 have hb:b.filter (λx=>key x==k)=[]:=by
  rw [BI];intro y hy e;obtain⟨x,hx⟩:=List.exists_mem_of_ne_nil _ ha;obtain⟨c,d⟩:=AN.1 hx;have:=h x c y hy;simp at e d;omega
 rw [hb];simp
end
theorem S8 (p:γ->Bool):∀l:List γ,l.length=(l.filter p).length+(l.filter λx=>!p x).length
 |[]=>rfl
 |x::l=>by
  have:=S8 p l;cases h:p x<;>simp [h]<;>omega
section
variable (key:γ->Int)
theorem Ch.len:Ch key a b->a.length=b.length:=by
 intro h;have:∀(n:Nat) (a b:List γ),a.length<=n->Ch key a b->a.length=b.length:=by
  intro n
  induction n with
  |zero=>
   intro a b ha h;have:a=[]:=AB (by omega);subst this;rw [h.nil]
  |succ n ih=>
   intro a b ha h
   cases a with
   |nil=>rw [h.nil]
   |cons x a=>
    have hp:(x::a).length=((x::a).filter (λy=>key y==key x)).length+((x::a).filter (λy=>!(key y==key x))).length:=by
     exact S8 _ _
    have c:b.length=(b.filter (λy=>key y==key x)).length+(b.filter (λy=>!(key y==key x))).length:=by
     exact S8 _ _
    have h1:Ch key ((x::a).filter (λy=>!(key y==key x))) (b.filter (λy=>!(key y==key x))):=by
     intro k;rw [GS,GS];by_cases hk:k=key x
     ·subst hk
      have z:∀l:List γ,l.filter (λy=>(key y==key x)&&!(key y==key x))=[]:=λl=>by
       rw [BI];intro y _;cases key y==key x<;>simp
      rw [z,z]
     have z:∀l:List γ,l.filter (λy=>(key y==k)&&!(key y==key x))=l.filter (λy=>key y==k):=λl=>by
      apply List.filter_congr;intro y _;by_cases e:key y=k
      ·have:(key y==key x)=false:=by simp [e,hk]
       simp [this]
      have:(key y==k)=false:=by simpa using e
      simp [this]
     rw [z,z];exact h k
    have h2:=ih _ _ (by
     have:0<((x::a).filter (λy=>key y==key x)).length:=by simp
     omega) h1
    rw [hp,c,h2,h (key x)]
 exact this a.length a b (A4 _) h
end
section
variable (key:γ->Int)
theorem O8:∀{a b:List γ},srt key a->srt key b->Ch key a b->a=b
 |[],b,_,_,h=>(h.nil key).symm
 |x::a,[],_,_,h=>by
  have:=h.len key;simp at this
 |x::a,y::b,ha,hb,h=>by
  have c:key x=key y:=by
   have h1:x∈y::b:=(h.mem key).2 CK;have h2:y∈x::a:=(h.mem key).1 CK;have k1:key y<=key x:=by
    rcases BE.1 h1 with rfl|h1
    ·exact E7 _
    exact(Cs.1 hb).1 x h1
   have k2:key x<=key y:=by
    rcases BE.1 h2 with rfl|h2
    ·exact E7 _
    exact(Cs.1 ha).1 y h2
   omega
  have e:=h (key x);rw [BK (by simp [c]),BK (by simp)]at e
  injection e with e1 e2
  subst e1;have h':Ch key a b:=by
   intro k;have:=h k;by_cases hk:key y=k
   ·subst hk;exact e2
   rw [B9 (by simpa using hk),B9 (by simpa using hk)]at this;exact this
  rw [O8 (Cs.1 ha).2 (Cs.1 hb).2 h']
end
theorem QR (P S:List γ) (x:γ):gi (P++x::S) (P.length:Nat)=some x:=by
 rw [AC,AS (A4 _)];simp
theorem jO (P S:List γ) (x y:γ):si (P++x::S) (P.length:Nat) y=P++y::S:=by
 rw [Gs];simp
theorem ABh (P M S:List γ) (x y:γ):yA (P++x::(M++y::S)) (P.length:Nat) ((P.length+1+M.length:Nat):Int)=some (P++y::(M++x::S)):=by
 unfold yA;have e:P++x::(M++y::S)=(P++x::M)++y::S:=by simp
 have e2:P++y::(M++y::S)=(P++y::M)++y::S:=by simp
 have hl:(P.length+1+M.length)=(P++x::M).length:=by simp;omega
 have a:(P.length+1+M.length)=(P++y::M).length:=by simp;omega
 rw [QR,Aa];have h2:gi (P++x::(M++y::S)) ((P.length+1+M.length:Nat):Int)=some y:=by rw [e,hl,QR]
 rw [h2,Aa,jO,e2,a,jO];simp
theorem ABi (P S:List γ) (x y:γ):yA (P++x::y::S) ((P.length+1:Nat):Int) (P.length:Nat)=some (P++y::x::S):=by
 unfold yA;have e:P++x::y::S=(P++ [x])++y::S:=by simp
 have e2:P++x::x::S=P++x::(x::S):=rfl;have hl:(P.length+1)=(P++ [x]).length:=by simp
 have h1:gi (P++x::y::S) ((P.length+1:Nat):Int)=some y:=by rw [e,hl,QR]
 rw [h1,Aa,QR,Aa];have h3:si (P++x::y::S) ((P.length+1:Nat):Int) x=P++x::x::S:=by rw [e,hl,jO];simp
 rw [h3,jO]
theorem ADk (P S:List γ) (x y:γ):yA (P++x::y::S) (P.length:Nat) ((P.length+1:Nat):Int)=some (P++y::x::S):=by
 have:=ABh P [] S x y;simpa using this
theorem O6:∀(X Y P M S:List γ),X.length=Y.length->P.length+X.length+M.length+Y.length+S.length<=1152921504606846976->
  Dh lt (P++X++M++Y++S) (P.length:Nat) ((P.length+X.length+M.length:Nat):Int) (X.length:Nat)=some (P++Y++M++X++S):=by
 have d:∀(n:Nat) (X Y P M S:List γ) (a b c i:Nat),X.length=n->Y.length=n->a+i=P.length->b+i=P.length+n+M.length->c=i+n->P.length+n+M.length+n+S.length<=1152921504606846976->
   Aw (λs:Int×List γ=>Ea lt (a:Int) (b:Int) (c:Int) s.1 s.2) ((i:Int),P++X++M++Y++S)=some (P++Y++M++X++S):=by
  intro n
  induction n with
  |zero=>
   intro X Y P M S a b c i hX hY h1 h2 h3 hN;have:=AB hX;subst this;have:=AB hY;subst this;rw [A8];simp only [Ea];rw [Af (by omega:¬(i:Int)<c),Ac]
  |succ n ih=>
   intro X Y P M S a b c i hX hY h1 h2 h3 hN
   cases X with
   |nil=>simp at hX
   |cons x X=>
   cases Y with
   |nil=>simp at hY
   |cons y Y=>
   simp only [Ay]at hX hY;have hs:yA (P++(x::X)++M++(y::Y)++S) (ad (a:Int) (i:Int)) (ad (b:Int) (i:Int))=some (P++(y::X)++M++(x::Y)++S):=by
    have e1:ad (a:Int) (i:Int)=(P.length:Nat):=by rw [CA (by omega) (by omega)];omega
    have e2:ad (b:Int) (i:Int)=((P.length+1+(X++M).length:Nat):Int):=by rw [CA (by omega) (by omega)];simp only [Ag];omega
    have:=ABh P (X++M) (Y++S) x y;rw [e1,e2];simpa using this
   rw [A8];simp only [Ea];rw [Ad (by omega:(i:Int)<c),Ae,hs,Aa,ad1 (by omega)];have:=ih X Y (P++ [y]) (M++ [x]) S a b c (i+1) (by omega) (by omega) (by simp;omega) (by simp;omega) (by omega) (by simp;omega);simp only [Ar,BG,AA,Cq]at this⊢;exact this
 intro X Y P M S e hN;unfold Dh;have:=d X.length X Y P M S P.length (P.length+X.length+M.length) X.length 0 rfl e.symm (by omega) (by omega) (by omega) (by omega);rw [show((0:Nat):Int)=0 from rfl]at this;rw [this];rfl
theorem ACl (P A B S:List γ) (hA:A≠ []) (hB:B≠ []) (hN:P.length+A.length+B.length+S.length<=1152921504606846976):
  Fv lt (P++A++B++S) (P.length:Nat) ((P.length+A.length:Nat):Int) ((P.length+A.length+B.length:Nat):Int)=some (P++B++A++S):=by
 have g:∀(m:Nat) (Bd:Int×Int×List γ->Option ((Int×Int×List γ)⊕(Int×List γ))) (d:∀i j l,Bd (i,j,l)=EU lt (m:Int) i j l) (k:Nat) (P U V S:List γ),U.length+V.length<=k->U≠ []->V≠ []->P.length+U.length=m->P.length+U.length+V.length+S.length<=1152921504606846976->
   ((
    Aw Bd ((U.length:Int),(V.length:Int),P++U++V++S)).bind λv3=>
    (Dh lt v3.2 (sb (m:Int) v3.1) (m:Int) v3.1).bind λv4=>some v4)=some (P++V++U++S):=by
  intro m Bd d k
  induction k with
  |zero=>
   intro P U V S hk hU;exact absurd (AB (by omega)) hU
  |succ k ih=>
   intro P U V S hk hU hV hm hN;have lU:=Ik.2 hU;have lV:=Ik.2 hV;rw [A8];simp only [d,EU];have c:sb (m:Int) (U.length:Int)=(P.length:Nat):=by rw [Cz (by omega) (by omega)];omega
   by_cases f:U.length=V.length
   ·have e:((U.length:Int) !=(V.length:Int))=false:=by simp [f]
    rw [e,Ac];simp only [Aa];rw [c];have:=O6 (lt:=lt) U V P [] S f (by simp;omega);simp only [A0,Bn,G3]at this;rw [hm]at this;rw [this];rfl
   have e:((U.length:Int) !=(V.length:Int))=true:=by simp;omega
   rw [e,Ae];by_cases n:U.length>V.length
   ·rw [Ad (by omega:(U.length:Int)>V.length),Ae,c];have h:U=U.take V.length++U.drop V.length:=(Br _ _).symm;have a:(U.take V.length).length=V.length:=by simp;omega
    have b:(U.drop V.length).length=U.length-V.length:=by simp
    have:=O6 (lt:=lt) (U.take V.length) V P (U.drop V.length) S a (by rw [a,b];omega);rw [a,b,show P.length+V.length+(U.length-V.length)=m by omega]at this;have e3:P++U++V++S=P++U.take V.length++U.drop V.length++V++S:=by
     have:P++U++V++S=P++(U.take V.length++U.drop V.length)++V++S:=by rw [Br]
     rw [this];simp only [Ar]
    rw [e3,this,Aa];have e4:sb (U.length:Int) (V.length:Int)=((U.drop V.length).length:Int):=by rw [Cz (by omega) (by omega),b];omega
    have:=ih (P++V) (U.drop V.length) (U.take V.length) S (by rw [a,b];omega) (by intro e;rw [e]at b;simp at b;omega) (by intro e;rw [e]at a;simp at a;omega) (by simp only [Ag];omega) (by simp only [Ag,a,b];omega);rw [a]at this;rw [e4];simp only [Ar]at this⊢;rw [this];rw [show U.take V.length++(U.drop V.length++S)=U++S by rw [<-Ar,Br]]
   rw [Af (by omega:¬(U.length:Int)>V.length),Ac,c];have a:(V.take (V.length-U.length)).length=V.length-U.length:=by simp
   have b:(V.drop (V.length-U.length)).length=U.length:=by simp;omega
   have:=O6 (lt:=lt) U (V.drop (V.length-U.length)) P (V.take (V.length-U.length)) S b.symm (by rw [a,b];omega);rw [a]at this;have e2:sb (ad (m:Int) (V.length:Int)) (U.length:Int)=((P.length+U.length+(V.length-U.length):Nat):Int):=by rw [CA (by omega) (by omega),Cz (by omega) (by omega)];omega
   have e3:P++U++V++S=P++U++V.take (V.length-U.length)++V.drop (V.length-U.length)++S:=by
    have:P++U++V++S=P++U++(V.take (V.length-U.length)++V.drop (V.length-U.length))++S:=by rw [Br]
    rw [this];simp only [Ar]
   rw [e2,e3,this,Aa];have e4:sb (V.length:Int) (U.length:Int)=((V.take (V.length-U.length)).length:Int):=by rw [Cz (by omega) (by omega),a];omega
   have:=ih P (V.drop (V.length-U.length)) (V.take (V.length-U.length)) (U++S) (by rw [a,b];omega) (by intro e;rw [e]at b;simp at b;omega) (by intro e;rw [e]at a;simp at a;omega) (by rw [b];omega) (by simp only [Ag,a,b];omega);rw [b]at this;rw [e4];simp only [Ar]at this⊢;rw [this];rw [show V.take (V.length-U.length)++(V.drop (V.length-U.length)++(U++S))=V++(U++S) by rw [<-Ar,Br]]
 have h1:sb ((P.length+A.length:Nat):Int) (P.length:Nat)=(A.length:Int):=by rw [Cz (by omega) (by omega)];omega
 have h2:sb ((P.length+A.length+B.length:Nat):Int) ((P.length+A.length:Nat):Int)=(B.length:Int):=by rw [Cz (by omega) (by omega)];omega
 unfold Fv;rw [h1,h2];exact g (P.length+A.length) (λs=>EU lt ((P.length+A.length:Nat):Int) s.1 s.2.1 s.2.2) (λ_ _ _=>rfl) _ P A B S (A4 _) hA hB rfl hN
def Nc (a:γ->Int) (x y:γ):Bool:=decide (a x<a y)
theorem ACJ (a:γ->Int) (P S:List γ) (y:γ) (B:Int×List γ->Option ((Int×List γ)⊕(List γ))) (hB:∀j l,B (j,l)=Bq (Nc a) (P.length:Nat) j l):∀(n:Nat) (U V:List γ),U.length=n->srt a U->P.length+U.length+V.length+S.length<=1152921504606846976->
  ∃U1 U2,U=U1++U2/\Aw B (((P.length+U.length:Nat):Int),P++U++y::(V++S))=some (P++U1++y::(U2++V++S))/\(∀v∈U2,a y<a v)/\∀u∈U1,a u<=a y:=by
 intro n
 induction n with
 |zero=>
  intro U V hU _ hN;have:=AB hU;subst this;refine⟨[],[],rfl,?_,by simp,by simp⟩;rw [A8,hB];simp only [Bq];rw [Af (by simp only [Bn];omega:¬((P.length+([]:List γ).length:Nat):Int)>(P.length:Nat))];simp
 |succ n ih=>
  intro U V hU hs hN
  rcases Hb U with rfl|⟨U0,z,rfl⟩
  ·simp at hU
  rw [Hc]at hU hs hN⊢;simp only [Ag,Aj]at hU hN;have hl:P.length+(U0++ [z]).length=(P++U0).length+1:=by simp;omega
  have e0:P++(U0++ [z])++y::(V++S)=(P++U0)++z::y::(V++S):=by simp
  have ej:sb (((P++U0).length+1:Nat):Int) 1=((P++U0).length:Nat):=by rw [Cz (by simp only [Ag];omega) (by simp only [Ag];omega)];omega
  have g1:gi ((P++U0)++z::y::(V++S)) (((P++U0).length+1:Nat):Int)=some y:=by
   have e:(P++U0)++z::y::(V++S)=((P++U0)++ [z])++y::(V++S):=by simp
   have hl':(P++U0).length+1=((P++U0)++ [z]).length:=by simp only [Ag,Aj]
   rw [e,hl',QR]
  have g2:gi2 ((P++U0)++z::y::(V++S)) (((P++U0).length+1:Nat):Int) ((P++U0).length:Nat)=some (y,z):=by
   unfold gi2;rw [g1,Aa,QR];rfl
  by_cases b:a y<a z
  ·obtain⟨U1,U2,h1,h2,h3,h4⟩:=ih U0 (z::V) (by omega) (AX.1 hs).1 (by simp only [Ay];omega);refine⟨U1,U2++ [z],by rw [h1];simp,?_,?_,h4⟩
   ·rw [A8,hB];simp only [Bq];rw [hl,e0,Ad (by simp only [Ag];omega:(((P++U0).length+1:Nat):Int)>(P.length:Nat)),Ae,ej,g2];simp only [Aa,Nc];rw [Ad b,Ae,ABi,Aa];simp only;have:P++U0++y::z::(V++S)=P++U0++y::(z::V++S):=by simp
    rw [this,show(P++U0).length=P.length+U0.length from Ag,h2];simp
   intro v hv
   rcases Ak.1 hv with hv|hv
   ·exact h3 v hv
   rw [Az]at hv;rw [hv];exact b
  refine⟨U0++ [z],[],by simp,?_,by simp,?_⟩
  ·rw [A8,hB];simp only [Bq];rw [hl,e0,Ad (by simp only [Ag];omega:(((P++U0).length+1:Nat):Int)>(P.length:Nat)),Ae,ej,g2];simp only [Aa,Nc];rw [Af b,Ac];simp
  intro u hu
  rcases Ak.1 hu with hu|hu
  ·have:=(AX.1 hs).2.2 u hu z (by simp);omega
  simp at hu;subst hu;omega
section
variable (key:γ->Int)
theorem I4 (P X S:List γ) (hN:P.length+X.length+S.length<=1152921504606846976):
  ∃X',BT (Nc key) (P++X++S) (P.length:Nat) ((P.length+X.length:Nat):Int)=some (P++X'++S)/\srt key X'/\Ch key X X':=by
 have main:∀(b:Nat) (B:Int×List γ->Option ((Int×List γ)⊕(List γ))),(∀i l,B (i,l)=Bv (Nc key) (P.length:Nat) (b:Int) i l)->∀(n:Nat) (U V:List γ),V.length=n->P.length+U.length+V.length=b->srt key U->b+S.length<=1152921504606846976->
   ∃X',Aw B (((P.length+U.length:Nat):Int),P++U++V++S)=some (P++X'++S)/\srt key X'/\Ch key (U++V) X':=by
  intro b B hB n
  induction n with
  |zero=>
   intro U V hV hb hs hN;have:=AB hV;subst this;refine⟨U,?_,hs,by rw [A0];exact Ch.refl key U⟩;rw [A8,hB];simp only [Bv];simp only [Bn,G3]at hb;rw [Af (by omega:¬((P.length+U.length:Nat):Int)<(b:Int)),Ac,A0]
  |succ n ih=>
   intro U V hV hb hs hN
   cases V with
   |nil=>simp at hV
   |cons y V=>
    simp only [Ay]at hV hb;obtain⟨U1,U2,h1,h2,h3,h4⟩:=ACJ key P (V++S) y (λs=>Bq (Nc key) (P.length:Nat) s.1 s.2) (λ_ _=>rfl) U.length U [] rfl hs (by simp only [Ag,Bn];omega);have hs':srt key (U1++y::U2):=by
     rw [h1]at hs;obtain⟨q1,q2,q3⟩:=AX.1 hs;refine AX.2 ⟨q1,Cs.2 ⟨λv hv=>AA7 (h3 v hv),q2⟩,λu hu v hv=>?_⟩
     rcases BE.1 hv with rfl|hv
     ·exact h4 u hu
     exact q3 u hu v hv
    have hk:Ch key (U++ [y]) (U1++y::U2):=by
     rw [h1,Ar];have:=Ch.swap key (a:=U2) (b:=[y]) (λx hx z hz=>by simp at hz;subst hz;exact h3 x hx);exact G6 key (Ch.refl key U1) this
    have c:(U1++y::U2).length=U.length+1:=by rw [h1];simp;omega
    obtain⟨X',r1,r2,r3⟩:=ih (U1++y::U2) V (by omega) (by rw [c];omega) hs' hN;refine⟨X',?_,r2,?_⟩
    ·rw [A8,hB];simp only [Bv];rw [Ad (by omega:((P.length+U.length:Nat):Int)<(b:Int)),Ae];have e:P++U++y::V++S=P++U++y::([]++(V++S)):=by simp
     rw [e,h2,Aa,ad1 (by omega)];simp only;rw [show P.length+U.length+1=P.length+(U1++y::U2).length by rw [c];omega];have e2:P++U1++y::(U2++ []++(V++S))=P++(U1++y::U2)++V++S:=by simp
     rw [e2,r1]
    refine Ch.trans key ?_ r3;have e3:U++y::V=(U++ [y])++V:=by simp
    rw [e3];exact G6 key hk (Ch.refl key V)
 unfold BT;rw [ad1 (by omega)]
 cases X with
 |nil=>
  refine⟨[],?_,List.Pairwise.nil,Ch.refl key _⟩;rw [A8];simp only [Bv];rw [Af (by simp only [Bn];omega:¬((P.length+1:Nat):Int)<((P.length+([]:List γ).length:Nat):Int))];rfl
 |cons x X=>
  obtain⟨X',h1,h2,h3⟩:=main (P.length+(x::X).length) (λs=>Bv (Nc key) (P.length:Nat) ((P.length+(x::X).length:Nat):Int) s.1 s.2) (λ_ _=>rfl) X.length [x] X rfl (by simp;omega) (IB _ _) (by simp only [Ay]at hN⊢;omega);refine⟨X',?_,h2,h3⟩;have e:P++x::X++S=P++ [x]++X++S:=by simp
  rw [e];simp only [Aj]at h1;rw [h1];rfl
end
def dU (i j:Int):Int:=IntKind.i64.wrap (Int.fdiv (IntKind.u64.wrap (ad i j)) (2^(min (1:Int).toNat IntKind.u64.bits)))
theorem nT (i j:Nat) (h:i+j<=4611686018427387904):dU (i:Int) (j:Int)=(((i+j)/2:Nat):Int):=by
 unfold dU;rw [CA (by omega) (by omega)];have e1:IntKind.u64.wrap ((i:Int)+(j:Int))=((i+j:Nat):Int):=by
  have:IntKind.u64.wrap ((i:Int)+(j:Int))=((i:Int)+(j:Int)) %18446744073709551616:=by simp [IntKind.wrap,IntKind.bits,IntKind.signed]
  rw [this];omega
 have e2:(2:Int)^(min (1:Int).toNat IntKind.u64.bits)=2:=by decide
 rw [e1,e2,Int.fdiv_eq_ediv_of_nonneg _ (by omega),ND (by omega) (by omega)];omega
theorem qC {B:Int×Int->Option ((Int×Int)⊕Int)} (p:Nat->Bool) (lo hi:Nat) (h1:∀i j:Nat,lo<=i->i<j->j<=hi->B ((i:Int),(j:Int))=some (.inl (bif p ((i+j)/2)then((((i+j)/2+1:Nat):Int),(j:Int))else((i:Int),(((i+j)/2:Nat):Int))))) (h2:∀i:Nat,B ((i:Int),(i:Int))=some (.inr (i:Int))):
  ∀(n i j:Nat),j-i<=n->lo<=i->i<=j->j<=hi->(lo<i->p (i-1)=true)->(j<hi->p j=false)->∃r:Nat,Aw B ((i:Int),(j:Int))=some (r:Int)/\lo<=r/\r<=hi/\(lo<r->p (r-1)=true)/\(r<hi->p r=false):=by
 intro n
 induction n with
 |zero=>
  intro i j hn hl a hh k1 k2;have:i=j:=by omega
  subst this;exact⟨i,by rw [A8,h2],hl,hh,k1,k2⟩
 |succ n ih=>
  intro i j hn hl a hh k1 k2;by_cases he:i=j
  ·subst he;exact⟨i,by rw [A8,h2],hl,hh,k1,k2⟩
  rw [A8,h1 i j hl (by omega) hh]
  cases hp:p ((i+j)/2)with
  |true=>
   exact ih ((i+j)/2+1) j (by omega) (by omega) (by omega) hh (λ_=>by rw [Nat.add_sub_cancel];exact hp) k2
  |false=>
   exact ih i ((i+j)/2) (by omega) hl (by omega) (by omega) k1 (λ_=>hp)
theorem pR (P X T:List γ) (k:Nat) (hk:k<X.length):gi (P++X++T) ((P.length+k:Nat):Int)=some X[k]:=by
 rw [AC,Ar,AS (by omega),Nat.add_sub_cancel_left,AQ hk,Ab hk]
theorem Tn (a:γ->Int) (h:srt a X) (h0:0<r) (hr:r<=X.length):∀u∈X.take r,a u<=a (X[r-1]'(by omega)):=by
 intro u hu;obtain⟨i,hi,e⟩:=AI hu;rw [EM]at e;simp only [AF]at hi;rw [<-e];by_cases b:i=r-1
 ·subst b;exact E7 _
 exact Ds.1 h i (r-1) (by omega) (by omega) (by omega)
theorem To (a:γ->Int) (h:srt a X) (hr:r<X.length):∀v∈X.drop r,a X[r]<=a v:=by
 intro v hv;obtain⟨i,hi,e⟩:=AI hv;rw [SZ]at e;simp only [B8]at hi;rw [<-e];by_cases b:i=0
 ·subst b;simp
 exact Ds.1 h r (r+i) (by omega) (by omega) (by omega)
theorem ADH (a:γ->Int) (S:List γ) (x:γ) (v2:Nat) (B:Int×List γ->Option ((Int×List γ)⊕(List γ))) (hB:∀k l,B (k,l)=DD (Nc a) (v2:Int) k l):∀(Y P:List γ),P.length+Y.length+1=v2->v2<=1152921504606846976->
  Aw B ((P.length:Int),P++x::(Y++S))=some (P++Y++x::S):=by
 intro Y
 induction Y with
 |nil=>
  intro P h hN;rw [A8,hB];simp only [DD];simp only [Bn]at h;rw [Cz (by omega) (by omega),Af (by omega:¬(P.length:Int)<(v2:Int)-1)];simp
 |cons y Y ih=>
  intro P h hN;simp only [Ay]at h;rw [A8,hB];simp only [DD];rw [Cz (by omega) (by omega),Ad (by omega:(P.length:Int)<(v2:Int)-1),Ae,ad1 (by omega),BG,ADk,Aa];simp only;have:=ih (P++ [y]) (by simp;omega) hN;simp only [Ag,Aj,Ar,Cq]at this;rw [this];simp
theorem AFG (a:γ->Int) (P S:List γ) (y:γ) (B:Int×List γ->Option ((Int×List γ)⊕(List γ))) (hB:∀k l,B (k,l)=DC (Nc a) (P.length:Int) k l):∀(n:Nat) (X S:List γ),X.length=n->P.length+X.length<=1152921504606846976->
  Aw B (((P.length+X.length:Nat):Int),P++X++y::S)=some (P++y::(X++S)):=by
 intro n
 induction n with
 |zero=>
  intro X S hX hN;have:=AB hX;subst this;rw [A8,hB];simp only [DC];rw [Af (by simp only [Bn];omega:¬((P.length+([]:List γ).length:Nat):Int)>(P.length:Int))];simp
 |succ n ih=>
  intro X S hX hN
  rcases Hb X with rfl|⟨X0,z,rfl⟩
  ·simp at hX
  rw [Hc]at hX hN⊢;simp only [Ag,Aj]at hX hN;have hl:P.length+(X0++ [z]).length=(P++X0).length+1:=by simp;omega
  have e0:P++(X0++ [z])++y::S=(P++X0)++z::y::S:=by simp
  have ej:sb (((P++X0).length+1:Nat):Int) 1=((P++X0).length:Nat):=by rw [Cz (by simp only [Ag];omega) (by simp only [Ag];omega)];omega
  rw [A8,hB];simp only [DC];rw [hl,e0,Ad (by simp only [Ag];omega:(((P++X0).length+1:Nat):Int)>(P.length:Int)),Ae,ej,ABi,Aa];simp only;rw [show(P++X0).length=P.length+X0.length from Ag,ih X0 (z::S) (by omega) (by omega)];simp
section
variable (key:γ->Int)
set_option maxHeartbeats 1000000 in
theorem VI:∀(n:Nat) (P X Y S:List γ),X≠ []->Y≠ []->srt key X->srt key Y->X.length+Y.length<=n->P.length+X.length+Y.length+S.length<=1152921504606846976->
  ∃Z,CM (Nc key) n (P++X++Y++S) (P.length:Nat) ((P.length+X.length:Nat):Int) ((P.length+X.length+Y.length:Nat):Int)=some (P++Z++S)/\srt key Z/\Ch key (X++Y) Z:=by
 intro n
 induction n with
 |zero=>
  intro P X Y S hX hY _ _ hn _;exact absurd (AB (by omega)) hX
 |succ n ih=>
  intro P X Y S hX hY sX sY hn hN;have lX:=Ik.2 hX;have lY:=Ik.2 hY;have eXA:sb ((P.length+X.length:Nat):Int) (P.length:Nat)=(X.length:Int):=by rw [Cz (by omega) (by omega)];omega
  have eYB:sb ((P.length+X.length+Y.length:Nat):Int) ((P.length+X.length:Nat):Int)=(Y.length:Int):=by rw [Cz (by omega) (by omega)];omega
  rw [CM,eXA,eYB];by_cases a1:X.length=1
  ·obtain⟨x,rfl⟩:=List.length_eq_one_iff.1 a1;have:(((([x]:List γ).length:Nat):Int)==1)=true:=rfl;rw [this,Ae];simp only [Aj]at hn hN⊢;obtain⟨r,r1,r2,r3,r4,r5⟩:=qC (B:=λs:Int×Int=>E0 (Nc key) (P++ [x]++Y++S) (P.length:Nat) s.1 s.2) (λc=>match Y[c-(P.length+1)]? with|some y=>decide (key y<key x)|none=>false) (P.length+1) (P.length+1+Y.length)
    (λi j hi w hj=>by
     simp only [E0];rw [Ad (by omega:(i:Int)<j),Ae];have hm:dU (i:Int) (j:Int)=(((i+j)/2:Nat):Int):=nT i j (by omega);unfold dU at hm;rw [hm];have hk:(i+j)/2-(P.length+1)<Y.length:=by omega
     have g1:gi (P++ [x]++Y++S) (((i+j)/2:Nat):Int)=some Y[(i+j)/2-(P.length+1)]:=by
      have:=pR (P++ [x]) Y S ((i+j)/2-(P.length+1)) hk;rw [show(P++ [x]).length+((i+j)/2-(P.length+1))=(i+j)/2 by simp;omega]at this;exact this
     have g2:gi (P++ [x]++Y++S) (P.length:Nat)=some x:=by
      have:=QR P (Y++S) x;simpa using this
     unfold gi2;rw [g1,Aa,g2,Aa,Aa,Ab hk];simp only [Nc];cases decide (key Y[(i+j)/2-(P.length+1)]<key x)
     ·rfl
     simp only [Ae];rw [ad1 (by omega)])
    (λi=>by
     simp only [E0]
     rw [Af (by omega:¬(i:Int)<i),Ac])
    (Y.length) (P.length+1) (P.length+1+Y.length) (by omega) (A4 _) (by omega) (A4 _) (λh=>absurd h (by omega)) (λh=>absurd h (by omega))
   rw [r1,Aa];have f:Y.take (r-(P.length+1))++Y.drop (r-(P.length+1))=Y:=Br _ _;have z:(Y.take (r-(P.length+1))).length=r-(P.length+1):=by simp;omega
   have h1:∀y∈Y.take (r-(P.length+1)),key y<key x:=by
    intro y hy;have h0:0<r-(P.length+1):=by
     rcases GQ (r-(P.length+1))with e|e
     ·rw [e]at hy;simp at hy
     exact e
    have:=Tn key sY h0 (by omega) y hy;have hp:=r4 (by omega);rw [show r-1-(P.length+1)=r-(P.length+1)-1 by omega,Ab (by omega)]at hp;simp only [A9]at hp;omega
   have a2:∀y∈Y.drop (r-(P.length+1)),key x<=key y:=by
    intro y hy;have h0:r-(P.length+1)<Y.length:=by
     rcases Dc (r-(P.length+1)) Y.length with e|e
     ·exact e
     rw [CU e]at hy;simp at hy
    have:=To key sY h0 y hy;have hp:=r5 (by omega);rw [Ab h0]at hp;simp only [AY]at hp;omega
   have hm:=ADH key (Y.drop (r-(P.length+1))++S) x r (λs=>DD (Nc key) (r:Int) s.1 s.2) (λ_ _=>rfl) (Y.take (r-(P.length+1))) P (by omega) (by omega);have e:P++ [x]++Y++S=P++x::(Y.take (r-(P.length+1))++(Y.drop (r-(P.length+1))++S)):=by
    rw [<-Ar (Y.take _),f];simp
   rw [e,hm,Aa];refine⟨Y.take (r-(P.length+1))++x::Y.drop (r-(P.length+1)),by simp,?_,?_⟩
   ·have sY':=sY;rw [<-f]at sY';obtain⟨q1,q2,q3⟩:=AX.1 sY';refine AX.2 ⟨q1,Cs.2 ⟨a2,q2⟩,λu hu v hv=>?_⟩
    rcases BE.1 hv with rfl|hv
    ·exact AA7 (h1 u hu)
    exact q3 u hu v hv
   have:=Ch.swap key (a:=[x]) (b:=Y.take (r-(P.length+1))) (λu hu y hy=>by simp at hu;subst hu;exact h1 y hy);have:=G6 key this (Ch.refl key (Y.drop (r-(P.length+1))));rw [Ar,f,Ar]at this;exact this
  have:((X.length:Int)==1)=false:=by simpa using(by omega:¬(X.length:Int)=1)
  rw [this,Ac];by_cases f:Y.length=1
  ·obtain⟨y,rfl⟩:=List.length_eq_one_iff.1 f;have:(((([y]:List γ).length:Nat):Int)==1)=true:=rfl;rw [this,Ae];simp only [Aj]at hn hN⊢;have gY:gi (P++X++ [y]++S) ((P.length+X.length:Nat):Int)=some y:=by
    have:=QR (P++X) S y;rw [Ag]at this;simpa using this
   obtain⟨r,r1,r2,r3,r4,r5⟩:=qC (B:=λs:Int×Int=>Ez (Nc key) (P++X++ [y]++S) ((P.length+X.length:Nat):Int) s.1 s.2) (λc=>match X[c-P.length]? with|some x=>!decide (key y<key x)|none=>false) P.length (P.length+X.length)
    (λi j hi w hj=>by
     simp only [Ez];rw [Ad (by omega:(i:Int)<j),Ae];have hm:dU (i:Int) (j:Int)=(((i+j)/2:Nat):Int):=nT i j (by omega);unfold dU at hm;rw [hm];have hk:(i+j)/2-P.length<X.length:=by omega
     have g1:gi (P++X++ [y]++S) (((i+j)/2:Nat):Int)=some X[(i+j)/2-P.length]:=by
      have:=pR P X ([y]++S) ((i+j)/2-P.length) hk;rw [show P.length+((i+j)/2-P.length)=(i+j)/2 by omega]at this;rw [Ar];exact this
     unfold gi2;rw [gY,Aa,g1,Aa,Aa,Ab hk];simp only [Nc];cases decide (key y<key X[(i+j)/2-P.length])
     ·simp only [AJ,Ae];rw [ad1 (by omega)]
     rfl)
    (λi=>by
     simp only [Ez]
     rw [Af (by omega:¬(i:Int)<i),Ac])
    (X.length) P.length (P.length+X.length) (by omega) (A4 _) (by omega) (A4 _) (λh=>absurd h (by omega)) (λh=>absurd h (by omega))
   rw [r1,Aa];have hX1':X.take (r-P.length)++X.drop (r-P.length)=X:=Br _ _;have z:(X.take (r-P.length)).length=r-P.length:=by simp;omega
   have h2:(X.drop (r-P.length)).length=X.length-(r-P.length):=by simp
   have a3:∀x∈X.take (r-P.length),key x<=key y:=by
    intro x hx;have h0:0<r-P.length:=by
     rcases GQ (r-P.length)with e|e
     ·rw [e]at hx;simp at hx
     exact e
    have:=Tn key sX h0 (by omega) x hx;have hp:=r4 (by omega);rw [show r-1-P.length=r-P.length-1 by omega,Ab (by omega)]at hp;simp only [CV,AY]at hp;omega
   have l:∀x∈X.drop (r-P.length),key y<key x:=by
    intro x hx;have h0:r-P.length<X.length:=by
     rcases Dc (r-P.length) X.length with e|e
     ·exact e
     rw [CU e]at hx;simp at hx
    have:=To key sX h0 x hx;have hp:=r5 (by omega);rw [Ab h0]at hp;simp only [Bool.not_eq_false',A9]at hp;omega
   have m:(P++X.take (r-P.length)).length=r:=by rw [Ag,z];omega
   have hm:=AFG key (P++X.take (r-P.length)) S y (λs=>DC (Nc key) (r:Int) s.1 s.2) (λ_ _=>by rw [m]) (X.drop (r-P.length)).length (X.drop (r-P.length)) S rfl (by rw [m,h2];omega);have e:P++X++ [y]++S=P++X.take (r-P.length)++X.drop (r-P.length)++y::S:=by
    have:P++X++ [y]++S=P++(X.take (r-P.length)++X.drop (r-P.length))++ [y]++S:=by rw [hX1']
    rw [this];simp
   rw [m,h2,show r+(X.length-(r-P.length))=P.length+X.length by omega]at hm;rw [e,hm,Aa];refine⟨X.take (r-P.length)++y::X.drop (r-P.length),by simp,?_,?_⟩
   ·have sX':=sX;rw [<-hX1']at sX';obtain⟨q1,q2,q3⟩:=AX.1 sX';refine AX.2 ⟨q1,Cs.2 ⟨λv hv=>AA7 (l v hv),q2⟩,λu hu v hv=>?_⟩
    rcases BE.1 hv with rfl|hv
    ·exact a3 u hu
    exact q3 u hu v hv
   have:=Ch.swap key (a:=X.drop (r-P.length)) (b:=[y]) (λu hu v hv=>by simp at hv;subst hv;exact l u hu);have:=G6 key (Ch.refl key (X.take (r-P.length))) this;rw [<-Ar,hX1']at this;exact this
  have:((Y.length:Int)==1)=false:=by simpa using(by omega:¬(Y.length:Int)=1)
  rw [this,Ac];have g:dU (P.length:Nat) ((P.length+X.length+Y.length:Nat):Int)=(((P.length+(P.length+X.length+Y.length))/2:Nat):Int):=nT _ _ (by omega);unfold dU at g;rw [g];obtain⟨mid,h3⟩:∃mid,mid=(P.length+(P.length+X.length+Y.length))/2:=⟨_,rfl⟩;rw [<-h3];have en:ad (mid:Int) ((P.length+X.length:Nat):Int)=((mid+(P.length+X.length):Nat):Int):=by rw [CA (by omega) (by omega)];omega
  rw [en];obtain⟨lo,hi,a4,b2,b3,o,a0⟩:∃lo hi:Nat,((bif decide (((P.length+X.length:Nat):Int)>(mid:Int))then(some ((sb ((mid+(P.length+X.length):Nat):Int) ((P.length+X.length+Y.length:Nat):Int)),(mid:Int)))else(some (((P.length:Nat):Int),((P.length+X.length:Nat):Int))):Option (Int×Int))=some ((lo:Int),(hi:Int)))/\
    P.length<=lo/\hi<=P.length+X.length/\lo<=hi/\(P.length+X.length>mid/\lo=mid+(P.length+X.length)-(P.length+X.length+Y.length)/\hi=mid\/P.length+X.length<=mid/\lo=P.length/\hi=P.length+X.length):=by
   by_cases l:P.length+X.length>mid
   ·refine⟨mid+(P.length+X.length)-(P.length+X.length+Y.length),mid,?_,by omega,by omega,by omega,.inl ⟨l,rfl,rfl⟩⟩;rw [Ad (by omega),Ae,Cz (by omega) (by omega)];congr 2;omega
   exact⟨P.length,P.length+X.length,by rw [Af (by omega),Ac],by omega,by omega,by omega,.inr ⟨by omega,rfl,rfl⟩⟩
  rw [a4,Aa];simp only;have a5:sb ((mid+(P.length+X.length):Nat):Int) 1=((mid+(P.length+X.length)-1:Nat):Int):=by rw [Cz (by omega) (by omega)];omega
  obtain⟨r,r1,r2,r3,r4,r5⟩:=qC (B:=λs:Int×Int=>Ey (Nc key) (P++X++Y++S) (P.length:Nat) ((P.length+X.length:Nat):Int) ((P.length+X.length+Y.length:Nat):Int) s.1 s.2)
   (λc=>match Y[mid+(P.length+X.length)-1-c-(P.length+X.length)]?,X[c-P.length]? with|some y,some x=>!decide (key y<key x)|_,_=>false) lo hi
   (λi j hi' w hj=>by
    simp only [Ey];rw [Ad (by omega:(i:Int)<j),Ae,g,<-h3,en,a5];have hm:dU (i:Int) (j:Int)=(((i+j)/2:Nat):Int):=nT i j (by omega);unfold dU at hm;rw [hm];have hk:(i+j)/2-P.length<X.length:=by omega
    have d:mid+(P.length+X.length)-1-(i+j)/2-(P.length+X.length)<Y.length:=by omega
    have g1:gi (P++X++Y++S) (((i+j)/2:Nat):Int)=some X[(i+j)/2-P.length]:=by
     have:=pR P X (Y++S) ((i+j)/2-P.length) hk;rw [show P.length+((i+j)/2-P.length)=(i+j)/2 by omega]at this;rw [Ar];exact this
    have es:sb ((mid+(P.length+X.length)-1:Nat):Int) (((i+j)/2:Nat):Int)=(((P++X).length+(mid+(P.length+X.length)-1-(i+j)/2-(P.length+X.length)):Nat):Int):=by
     rw [Cz (by omega) (by omega),Ag];omega
    have g2:gi (P++X++Y++S) (((P++X).length+(mid+(P.length+X.length)-1-(i+j)/2-(P.length+X.length)):Nat):Int)=some Y[mid+(P.length+X.length)-1-(i+j)/2-(P.length+X.length)]:=pR (P++X) Y S _ d;unfold gi2;rw [es,g2,Aa,g1,Aa,Aa,Ab hk,Ab d];simp only [Nc];cases decide (key Y[mid+(P.length+X.length)-1-(i+j)/2-(P.length+X.length)]<key X[(i+j)/2-P.length])
    ·simp only [AJ,Ae];rw [ad1 (by omega)]
    rfl)
   (λi=>by
    simp only [Ey]
    rw [Af (by omega:¬(i:Int)<i),Ac])
   (hi-lo) lo hi (A4 _) (A4 _) o (A4 _) (λh=>absurd h (by omega)) (λh=>absurd h (by omega))
  rw [r1,Aa];obtain⟨fin,b1⟩:∃fin,fin=mid+(P.length+X.length)-r:=⟨_,rfl⟩;have h4:sb ((mid+(P.length+X.length):Nat):Int) (r:Int)=(fin:Int):=by rw [Cz (by omega) (by omega)];omega
  simp only [h4];have b4:P.length+X.length<=fin/\fin<=P.length+X.length+Y.length:=by omega
  obtain⟨A1,A2,hA⟩:∃A1 A2,A1=X.take (r-P.length)/\A2=X.drop (r-P.length):=⟨_,_,rfl,rfl⟩;obtain⟨B1,B2,hB⟩:∃B1 B2,B1=Y.take (fin-(P.length+X.length))/\B2=Y.drop (fin-(P.length+X.length)):=⟨_,_,rfl,rfl⟩;have p:A1++A2=X:=by rw [hA.1,hA.2];exact Br _ _
  have q:B1++B2=Y:=by rw [hB.1,hB.2];exact Br _ _
  have lA1:A1.length=r-P.length:=by rw [hA.1];simp;omega
  have lA2:A2.length=P.length+X.length-r:=by rw [hA.2];simp;omega
  have lB1:B1.length=fin-(P.length+X.length):=by rw [hB.1];simp;omega
  have lB2:B2.length=P.length+X.length+Y.length-fin:=by rw [hB.2];simp;omega
  have sX':=sX;rw [<-p]at sX';obtain⟨sA1,sA2,sA⟩:=AX.1 sX';have sY':=sY;rw [<-q]at sY';obtain⟨sB1,sB2,sB⟩:=AX.1 sY';have a6:∀u∈A1,∀v∈B2,key u<=key v:=by
   intro u hu v hv;have l1:=Nh hu;have l2:=Nh hv;have hp:=r4 (by omega);have d:mid+(P.length+X.length)-1-(r-1)-(P.length+X.length)<Y.length:=by omega
   have k:r-1-P.length<X.length:=by omega
   rw [Ab d,Ab k]at hp;simp only [CV,AY]at hp;rw [hA.1]at hu;have k1:=Tn key sX (r:=r-P.length) (by omega) (by omega) u hu;rw [hB.2]at hv;have k2:=To key sY (r:=fin-(P.length+X.length)) (by omega) v hv;have i1:X[r-P.length-1]'(by omega)=X[r-1-P.length]'k:=by congr 1;omega
   have i2:Y[fin-(P.length+X.length)]'(by omega)=Y[mid+(P.length+X.length)-1-(r-1)-(P.length+X.length)]'d:=by congr 1;omega
   rw [i1]at k1;rw [i2]at k2;omega
  have h5:∀x∈A2,∀y∈B1,key y<key x:=by
   intro x hx y hy;have l1:=Nh hx;have l2:=Nh hy;have hp:=r5 (by omega);have d:mid+(P.length+X.length)-1-r-(P.length+X.length)<Y.length:=by omega
   have k:r-P.length<X.length:=by omega
   rw [Ab d,Ab k]at hp;simp only [Bool.not_eq_false',A9]at hp;rw [hA.2]at hx;have k1:=To key sX k x hx;rw [hB.1]at hy;have k2:=Tn key sY (r:=fin-(P.length+X.length)) (by omega) (by omega) y hy;have i2:Y[fin-(P.length+X.length)-1]'(by omega)=Y[mid+(P.length+X.length)-1-r-(P.length+X.length)]'d:=by congr 1;omega
   rw [i2]at k2;omega
  have h6:(((bif decide ((r:Int)<((P.length+X.length:Nat):Int))then some (decide (((P.length+X.length:Nat):Int)<(fin:Int)))else some false:Option Bool).bind λj2=>
    (bif j2 then((Fv (Nc key) (P++X++Y++S) (r:Int) ((P.length+X.length:Nat):Int) (fin:Int)).bind λv11=>some v11)else some (P++X++Y++S):Option (List γ))))=some (P++A1++B1++A2++B2++S):=by
   have e:P++X++Y++S=(P++A1)++A2++B1++(B2++S):=by rw [<-p,<-q];simp
   by_cases c1:r<P.length+X.length
   ·rw [Ad (by omega:(r:Int)<((P.length+X.length:Nat):Int)),Ae,Aa];by_cases c2:P.length+X.length<fin
    ·rw [Ad (by omega:((P.length+X.length:Nat):Int)<(fin:Int)),Ae];have hr:=ACl (lt:=Nc key) (P++A1) A2 B1 (B2++S) (by intro e;rw [e]at lA2;simp at lA2;omega) (by intro e;rw [e]at lB1;simp at lB1;omega) (by simp only [Ag];omega);rw [show(P++A1).length=r by rw [Ag];omega]at hr;rw [show r+A2.length=P.length+X.length by omega,show P.length+X.length+B1.length=fin by omega]at hr;rw [e,hr,Aa];simp
    rw [Af (by omega:¬((P.length+X.length:Nat):Int)<(fin:Int)),Ac,e];have:B1=[]:=AB (by omega);rw [this];simp
   rw [Af (by omega:¬(r:Int)<((P.length+X.length:Nat):Int)),Ac,Aa,Ac,e];have:A2=[]:=AB (by omega);rw [this];simp
  rw [<-Option.bind_assoc,h6,Aa]
  have h7:∃Z1,(((bif decide (((P.length:Nat):Int)<(r:Int))then some (decide ((r:Int)<(mid:Int)))else some false:Option Bool).bind λj4=>
    (bif j4 then((CM (Nc key) n (P++A1++B1++A2++B2++S) (P.length:Nat) (r:Int) (mid:Int)).bind λv12=>some v12)else some (P++A1++B1++A2++B2++S):Option (List γ))))=some (P++Z1++A2++B2++S)/\srt key Z1/\Ch key (A1++B1) Z1:=by
   by_cases c1:P.length<r/\r<mid
   ·rw [Ad (by omega:((P.length:Nat):Int)<(r:Int)),Ae,Aa,Ad (by omega:(r:Int)<(mid:Int)),Ae];obtain⟨Z,z1,z2,z3⟩:=ih P A1 B1 (A2++B2++S) (by intro e;rw [e]at lA1;simp at lA1;omega) (by intro e;rw [e]at lB1;simp at lB1;omega) sA1 sB1 (by omega) (by simp only [Ag];omega);rw [show P.length+A1.length=r by omega,show r+B1.length=mid by omega]at z1;refine⟨Z,?_,z2,z3⟩;simp only [Ar]at z1⊢;rw [z1];rfl
   refine⟨A1++B1,?_,?_,Ch.refl key _⟩
   ·have:((bif decide (((P.length:Nat):Int)<(r:Int))then some (decide ((r:Int)<(mid:Int)))else some false:Option Bool))=some false:=by
     by_cases c:P.length<r
     ·rw [Ad (by omega),Ae,Af (by omega)]
     rw [Af (by omega),Ac]
    rw [this,Aa,Ac];simp
   by_cases c:P.length<r
   ·have:B1=[]:=AB (by omega);rw [this,A0];exact sA1
   have:A1=[]:=AB (by omega);rw [this,AA];exact sB1
  obtain⟨Z1,a7,a8,t⟩:=h7;rw [<-Option.bind_assoc,a7,Aa];have lZ1:Z1.length=A1.length+B1.length:=by have:=t.len key;rw [Ag]at this;omega
  have h8:∃Z2,(bif decide ((mid:Int)<(fin:Int))then(bif decide ((fin:Int)<((P.length+X.length+Y.length:Nat):Int))then((CM (Nc key) n (P++Z1++A2++B2++S) (mid:Int) (fin:Int) ((P.length+X.length+Y.length:Nat):Int)).bind λv13=>some v13)else some (P++Z1++A2++B2++S))else some (P++Z1++A2++B2++S):Option (List γ))=some (P++Z1++Z2++S)/\srt key Z2/\Ch key (A2++B2) Z2:=by
   by_cases c1:mid<fin
   ·rw [Ad (by omega:(mid:Int)<(fin:Int)),Ae];by_cases c2:fin<P.length+X.length+Y.length
    ·rw [Ad (by omega:(fin:Int)<((P.length+X.length+Y.length:Nat):Int)),Ae];obtain⟨Z,z1,z2,z3⟩:=ih (P++Z1) A2 B2 S (by intro e;rw [e]at lA2;simp at lA2;omega) (by intro e;rw [e]at lB2;simp at lB2;omega) sA2 sB2 (by omega) (by simp only [Ag];omega);rw [show(P++Z1).length=mid by rw [Ag];omega,show mid+A2.length=fin by omega,show fin+B2.length=P.length+X.length+Y.length by omega]at z1;exact⟨Z,by rw [z1];rfl,z2,z3⟩
    rw [Af (by omega:¬(fin:Int)<((P.length+X.length+Y.length:Nat):Int)),Ac];have:B2=[]:=AB (by omega);refine⟨A2++B2,by simp,?_,Ch.refl key _⟩;rw [this,A0];exact sA2
   rw [Af (by omega:¬(mid:Int)<(fin:Int)),Ac];have:A2=[]:=AB (by omega);refine⟨A2++B2,by simp,?_,Ch.refl key _⟩;rw [this,AA];exact sB2
  obtain⟨Z2,a9,b0,h9⟩:=h8;rw [a9];refine⟨Z1++Z2,by simp,AX.2 ⟨a8,b0,λu hu v hv=>?_⟩,?_⟩
  ·have hu':=(t.mem key).1 hu;have hv':=(h9.mem key).1 hv
   rcases Ak.1 hu' with hu'|hu'<;>rcases Ak.1 hv' with hv'|hv'
   ·exact sA u hu' v hv'
   ·exact a6 u hu' v hv'
   ·exact AA7 (h5 v hv' u hu')
   exact sB u hu' v hv'
  have e1:=G6 key (Ch.refl key A1) (G6 key (Ch.swap key h5) (Ch.refl key B2));have e2:=G6 key t h9;have e3:=Ch.trans key (by simpa using e1) (by simpa using e2);have:X++Y=A1++(A2++(B1++B2)):=by rw [<-p,<-q];simp
  rw [this];simpa using e3
end
section
variable {γ:Type} (key:γ->Int)
inductive Blocks (bs:Nat):List γ->Prop
 |last {l:List γ} (h:l.length<=bs) (hs:srt key l):Blocks bs l
 |cons {X l:List γ} (h:X.length=bs) (hs:srt key X) (hl:Blocks bs l):Blocks bs (X++l)
end
theorem qE (c:γ->Int) (N:Nat) (hN:N<=1073741824) (B:Int×Int×List γ->Option ((Int×Int×List γ)⊕(Int×List γ))) (hB:∀a b l,B (a,b,l)=Di (Nc c) (N:Int) a b l):
  ∀(k:Nat) (P T:List γ),T.length<=k->P.length+T.length=N->
   ∃Q R,Aw B ((P.length:Int),((P.length+20:Nat):Int),P++T)=some (((P.length+Q.length:Nat):Int),P++Q++R)/\Ch c T (Q++R)/\R.length<20/\(∀R',srt c R'->R'.length=R.length->Blocks c 20 (Q++R')):=by
 intro k
 induction k with
 |zero=>
  intro P T hT hP;have:=AB (Nat.le_zero.1 hT);subst this;refine⟨[],[],?_,Ch.refl c _,by simp,λR' h h2=>?_⟩
  ·rw [A8,hB];simp only [Di];simp only [Bn]at hP;rw [Af (by omega:¬((P.length+20:Nat):Int)<=(N:Int))];simp
  rw [AA];exact .last (by simp only [Bn]at h2;omega) h
 |succ k ih=>
  intro P T hT hP;by_cases h20:T.length<20
  ·refine⟨[],T,?_,by rw [AA];exact Ch.refl c _,h20,λR' h h2=>by rw [AA];exact .last (by omega) h⟩;rw [A8,hB];simp only [Di];rw [Af (by omega:¬((P.length+20:Nat):Int)<=(N:Int))];simp
  have d:T=T.take 20++T.drop 20:=(Br _ _).symm;have l1:(T.take 20).length=20:=by simp;omega
  have l2:(T.drop 20).length=T.length-20:=by simp
  obtain⟨X',x1,x2,x3⟩:=I4 c P (T.take 20) (T.drop 20) (by omega);have lX:X'.length=20:=by have:=x3.len c;omega
  rw [l1]at x1;obtain⟨Q,R,q1,q2,q3,q4⟩:=ih (P++X') (T.drop 20) (by omega) (by rw [Ag];omega);refine⟨X'++Q,R,?_,?_,q3,λR' h h2=>?_⟩
  ·rw [A8,hB];simp only [Di];rw [Ad (by omega:((P.length+20:Nat):Int)<=(N:Int)),Ae];have e:P++T=P++T.take 20++T.drop 20:=by rw [Ar,Br]
   rw [e,x1,Aa];simp only;have e2:ad ((P.length+20:Nat):Int) 20=(((P++X').length+20:Nat):Int):=by rw [CA (by omega) (by omega),Ag];omega
   rw [e2,show P.length+20=(P++X').length by rw [Ag];omega,q1];simp only [Ag,Ar,FI]
  ·rw [Ar];have:=G6 c x3 q2;rw [Br]at this;exact this
  rw [Ar];exact .cons lX x2 (q4 R' h h2)
theorem qD (c:γ->Int) (N bs:Nat) (hN:N<=1073741824) (f:0<bs) (g:bs<N) (B:Int×Int×List γ->Option ((Int×Int×List γ)⊕(Int×List γ))) (hB:∀a b l,B (a,b,l)=D5 (Nc c) (N:Int) (bs:Int) a b l):
  ∀(k:Nat) (P T:List γ),T.length<=k->P.length+T.length=N->Blocks c bs T->
   ∃Q R,Aw B ((P.length:Int),((P.length+2*bs:Nat):Int),P++T)=some (((P.length+Q.length:Nat):Int),P++Q++R)/\Ch c T (Q++R)/\R.length<2*bs/\Blocks c bs R/\(∀R',srt c R'->R'.length=R.length->Blocks c (2*bs) (Q++R')):=by
 intro k
 induction k with
 |zero=>
  intro P T hT hP hb;have:=AB (Nat.le_zero.1 hT);subst this;refine⟨[],[],?_,Ch.refl c _,by simp;omega,hb,λR' h h2=>?_⟩
  ·rw [A8,hB];simp only [D5];simp only [Bn]at hP;rw [Af (by omega:¬((P.length+2*bs:Nat):Int)<=(N:Int))];simp
  rw [AA];exact .last (by simp only [Bn]at h2;omega) h
 |succ k ih=>
  intro P T hT hP hb;by_cases h2:T.length<2*bs
  ·refine⟨[],T,?_,by rw [AA];exact Ch.refl c _,h2,hb,λR' h h3=>by rw [AA];exact .last (by omega) h⟩;rw [A8,hB];simp only [D5];rw [Af (by omega:¬((P.length+2*bs:Nat):Int)<=(N:Int))];simp
  
  obtain⟨X,Y,T2,rfl,lX,lY,sX,sY,d⟩:∃X Y T2,T=X++Y++T2/\X.length=bs/\Y.length=bs/\srt c X/\srt c Y/\Blocks c bs T2:=by
   cases hb with
   |last h hs=>omega
   | @cons X l h hs hl=>
    cases hl with
    |last h' hs'=>
     simp only [Ag]at h2;exact⟨X,l,[],by simp,h,by omega,hs,hs',.last (by simp) List.Pairwise.nil⟩
    | @cons Y l' h' hs' hl'=>exact⟨X,Y,l',by simp,h,h',hs,hs',hl'⟩
  simp only [Ag]at hP hT h2;obtain⟨Z,z1,z2,z3⟩:=VI c ((P++(X++Y++T2)).length+1) P X Y T2 (by intro e;rw [e]at lX;simp at lX;omega) (by intro e;rw [e]at lY;simp at lY;omega) sX sY (by simp only [Ag];omega) (by omega);have lZ:Z.length=2*bs:=by have:=z3.len c;rw [Ag]at this;omega
  obtain⟨Q,R,q1,q2,q3,q4,q5⟩:=ih (P++Z) T2 (by omega) (by rw [Ag];omega) d;refine⟨Z++Q,R,?_,?_,q3,q4,λR' h h3=>?_⟩
  ·rw [A8,hB];simp only [D5];rw [Ad (by omega:((P.length+2*bs:Nat):Int)<=(N:Int)),Ae];have e1:ad (P.length:Int) (bs:Int)=((P.length+X.length:Nat):Int):=by rw [CA (by omega) (by omega)];omega
   have e2:((P.length+2*bs:Nat):Int)=((P.length+X.length+Y.length:Nat):Int):=by omega
   have e3:ad ((P.length+2*bs:Nat):Int) (ml 2 (bs:Int))=(((P++Z).length+2*bs:Nat):Int):=by
    rw [Oh (by omega) (by omega),CA (by omega) (by omega),Ag];omega
   have e4:P++(X++Y++T2)=P++X++Y++T2:=by simp
   rw [e3,e1,e2,e4];rw [e4]at z1;rw [z1,Aa];simp only;rw [show P.length+X.length+Y.length=(P++Z).length by rw [Ag];omega,q1];simp only [Ag,Ar,FI]
  ·have:=G6 c z3 q2;simpa only [Ar]using this
  rw [Ar];exact .cons lZ z2 (q5 R' h h3)
section
variable (key:γ->Int)
theorem fY (l:List γ) (hN:l.length<=1073741824):∃r,Dz (Nc key) l (ln l)=some r/\srt key r/\Ch key l r:=by
 have rounds:∀(B:Int×List γ->Option ((Int×List γ)⊕(List γ))),(∀b l',B (b,l')=D6 (Nc key) (l.length:Int) b l')->∀(k bs:Nat) (T:List γ),l.length<=bs+k->0<bs->bs<=2147483648->T.length=l.length->Blocks key bs T->∃r,Aw B ((bs:Int),T)=some r/\srt key r/\Ch key T r:=by
  intro B hB k
  induction k with
  |zero=>
   intro bs T hk c d hT hb;rw [A8,hB];simp only [D6];rw [Af (by omega:¬(bs:Int)<(l.length:Int)),Ac];refine⟨T,rfl,?_,Ch.refl key _⟩
   cases hb with
   |last h hs=>exact hs
   | @cons X l' h hs hl=>
    simp only [Ag]at hT;have:l'=[]:=AB (by omega);rw [this,A0];exact hs
  |succ k ih=>
   intro bs T hk c d hT hb;by_cases f:bs<l.length
   ·rw [A8,hB];simp only [D6];rw [Ad (by omega:(bs:Int)<(l.length:Int)),Ae];obtain⟨Q,R,q1,q2,q3,q4,q5⟩:=qD key l.length bs hN c f (λs=>D5 (Nc key) (l.length:Int) (bs:Int) s.1 s.2.1 s.2.2) (λ_ _ _=>rfl) T.length [] T (A4 _) (by simp [hT]) hb;simp only [Bn,AA,KM]at q1;have a:Q.length+R.length=l.length:=by have:=q2.len key;rw [Ag]at this;omega
    have e2:ml 2 (bs:Int)=((2*bs:Nat):Int):=by rw [Oh (by omega) (by omega)];omega
    have e2':ml (bs:Int) 2=((2*bs:Nat):Int):=by rw [Oh (by omega) (by omega)];omega
    rw [e2,e2'];rw [show((0:Nat):Int)=0 from rfl]at q1;rw [q1,Aa];simp only;have em:ad (Q.length:Int) (bs:Int)=((Q.length+bs:Nat):Int):=by rw [CA (by omega) (by omega)];omega
    rw [em];by_cases hm:Q.length+bs<l.length
    ·rw [Ad (by omega:((Q.length+bs:Nat):Int)<(l.length:Int)),Ae];obtain⟨X,Y,rfl,lX,sX,sY⟩:∃X Y,R=X++Y/\X.length=bs/\srt key X/\srt key Y:=by
      cases q4 with
      |last h hs=>omega
      | @cons X l' h hs hl=>
       refine⟨X,l',rfl,h,hs,?_⟩
       cases hl with
       |last h' hs'=>exact hs'
       | @cons Y l'' h' hs' hl'=>
        simp only [Ag]at q3;have:l''=[]:=AB (by omega);rw [this,A0];exact hs'
     simp only [Ag]at a q3;obtain⟨Z,z1,z2,z3⟩:=VI key ((Q++(X++Y)).length+1) Q X Y [] (by intro e;rw [e]at lX;simp at lX;omega) (by intro e;rw [e]at a;simp at a;omega) sX sY (by simp only [Ag];omega) (by simp only [Bn];omega);have e5:Q++X++Y++ []=Q++(X++Y):=by simp
     rw [e5,A0,lX,show Q.length+bs+Y.length=l.length by omega]at z1;rw [z1,Aa];have lZ:Z.length=(X++Y).length:=(z3.len key).symm;obtain⟨r,r1,r2,r3⟩:=ih (2*bs) (Q++Z) (by omega) (by omega) (by omega) (by rw [Ag,lZ,Ag];omega) (q5 Z z2 lZ);exact⟨r,r1,r2,Ch.trans key q2 (Ch.trans key (G6 key (Ch.refl key Q) z3) r3)⟩
    rw [Af (by omega:¬((Q.length+bs:Nat):Int)<(l.length:Int)),Ac];have sR:srt key R:=by
     cases q4 with
     |last h hs=>exact hs
     | @cons X l' h hs hl=>
      simp only [Ag]at a;have:l'=[]:=AB (by omega);rw [this,A0];exact hs
    obtain⟨r,r1,r2,r3⟩:=ih (2*bs) (Q++R) (by omega) (by omega) (by omega) (by rw [Ag];omega) (q5 R sR rfl);exact⟨r,r1,r2,Ch.trans key q2 r3⟩
   exact ih bs T (by omega) c d hT hb
 unfold Dz;rw [Cf];obtain⟨Q,R,q1,q2,q3,q4⟩:=qE key l.length hN (λs=>Di (Nc key) (l.length:Int) s.1 s.2.1 s.2.2) (λ_ _ _=>rfl) l.length [] l (A4 _) (by simp);simp only [Bn,AA,KM]at q1;rw [show((0:Nat):Int)=0 from rfl,show((20:Nat):Int)=20 from rfl]at q1;rw [q1,Aa];have a:Q.length+R.length=l.length:=by have:=q2.len key;rw [Ag]at this;omega
 obtain⟨R',r1,r2,r3⟩:=I4 key Q R [] (by simp only [Bn];omega);rw [A0,A0,a]at r1;simp only;rw [r1,Aa];have lR:R'.length=R.length:=(r3.len key).symm;obtain⟨r,w1,w2,w3⟩:=rounds (λs=>D6 (Nc key) (l.length:Int) s.1 s.2) (λ_ _=>rfl) l.length 20 (Q++R') (by omega) (by omega) (by omega) (by rw [Ag,lR];exact a) (q4 R' r2 lR);rw [show((20:Nat):Int)=20 from rfl]at w1;rw [w1];exact⟨r,rfl,w2,Ch.trans key q2 (Ch.trans key (G6 key (Ch.refl key Q) r3) w3)⟩
end
end Go.TI
