/- What walks of Go code need. No condition. -/
import Derived.Test.YtdhemppeejlbeabGreatWRT3
import Derived.Laws.Strings
import Derived.Laws.BitsLemmas
set_option linter.unusedVariables false
namespace Go.TI
open Go Go.RowKit
def dS (P:Program) (N:Nat) (ops:Array Oper) (E:St) (i:Nat):Option (FuncId×Array Value×Int×Int):=bif PX P ops E i&&Gw N (oA ops i)then
 (match(oA ops i).op with
 | .call c=>match c.callee,c.args.toList with
  | .value (.tmp t),[o1,o2]=>match E.slots t,E.cell1 P 0 o1,E.cell1 P 0 o2 with
   | .one (.fn (.func g) fr cap),some (.int .i64 x),some (.int .i64 y)=>bif fr.isEmpty then some (g,cap,x,y)else none
   |_,_,_=>none
  |_,_=>none
 |_=>none)else none
variable {γ β S α V σ W S' β':Type} {E:St} {P:Program} {N i n by_:Nat} {Q:Exit->St->Prop} {ops ops2:Array Oper} {c y:Code} {l as:List AV} {dn:List Nat} {f g:FuncId} {fn:Func} {r:β} {x:Option α} {s0:S} {kk:α->Option β} {b:List γ} {body':S'->Option (S'⊕β)} {k:V->Option β} {v:V} {a:List γ} {s:σ} {Am:List γ->PV} {lt:γ->γ->Bool} {xl:List γ} {fin:α->List TV}
theorem aE {x y:Int} {cap:Array Value} (h:dS P N ops E i=some (g,cap,x,y)):PX P ops E i=true/\(∃d,(oA ops i).dst=some d/\Nat.blt d N=true)/\∃t o1 o2 tys,(oA ops i).op= .call {callee:= .value (.tmp t),args:= #[o1,o2],argTypes:=tys}/\E.slots t= .one (.fn (.func g) #[] cap)/\E.cell1 P 0 o1=some (.int .i64 x)/\E.cell1 P 0 o2=some (.int .i64 y):=by
 unfold dS at h
 cases hb:(PX P ops E i&&Gw N (oA ops i))with
 |false=>rw [hb]at h;cases h
 |true=>
  rw [hb]at h;simp only [Ae]at h;simp only [Al]at hb;obtain⟨d,h1,h2,_⟩:=ES hb.2;refine⟨hb.1,⟨d,h1,h2⟩,?_⟩;split at h
  ·rename_i c hc;split at h
   ·rename_i t o1 o2 k1 k2;split at h
    ·rename_i g' fr cap' x' y' m1 m2 m3
     cases he:fr.isEmpty with
     |false=>rw [he]at h;cases h
     |true=>
      rw [he]at h;simp only [Ae,An,Bv]at h;obtain⟨rfl,rfl,rfl,rfl⟩:=h;have a:fr= #[]:=by simpa using he
      subst a;refine⟨t,o1,o2,c.argTypes,?_,m1,m2,m3⟩;have ha:c.args= #[o1,o2]:=Array.toList_inj.1 k2;rw [hc];cases c;simp only at k1 ha;rw [k1,ha]
    cases h
   cases h
  cases h
theorem oS {rr:β} {l:List γ} {x y:Int} {k:γ×γ->Option β} {cap:Array Value} (a:Jv P Am lt g cap) (h:(qZ l x y).bind k=some rr) (hk:∀v,k v=some rr->RW P N ops (i+1) (E.put (oA ops i).dst (.one (.bool (lt v.1 v.2)))) Q) (hc:dS P N ops E i=some (g,cap,x,y):=by kernel_rfl) (hA:E.amb=Am l:=by kernel_rfl):RW P N ops i E Q:=by
 obtain⟨h1,⟨d,h2,h3⟩,t,o1,o2,tys,h4,h5,h6,h7⟩:=aE hc;obtain⟨h8,h9⟩:=HD h1;unfold RW;rw [G3 h8];exact zG a h d (λv hv=>by have:=hk v hv;rw [h2]at this;exact this) hA h4 h5 h6 h7 h2 h3 h9
theorem oR {rr:β} {sf:FuncId} {l:List γ} {x y:Int} {k:List γ->Option β} {cap:Array Value} (a:LP P Am sf cap) (hB:∀l l',(Am l).B=(Am l').B/\(Am l).pin=none) (h:(jH l x y).bind k=some rr) (hk:∀v,k v=some rr->RW P N ops (i+1) (({E with amb:=Am v}:St).put (oA ops i).dst (.tup [])) Q) (hc:dS P N ops E i=some (sf,cap,x,y):=by kernel_rfl) (hA:E.amb=Am l:=by kernel_rfl):RW P N ops i E Q:=by
 obtain⟨h1,⟨d,h2,h3⟩,t,o1,o2,tys,h4,h5,h6,h7⟩:=aE hc;obtain⟨h8,h9⟩:=HD h1;unfold RW;rw [G3 h8];exact zD a hB h d (λv hv=>by have:=hk v hv;rw [h2]at this;exact this) hA h4 h5 h6 h7 h2 h3 h9
def z8 (P:Program) (N:Nat) (ops:Array Oper) (E:St) (i:Nat):Option (FuncId×List AV):=bif PX P ops E i&&Gw N (oA ops i)then
 (match(oA ops i).op with
 | .call c=>match c.callee with
  | .value (.func f)=>match P.funcs[f]? with
   |some fn=>match IT P E ((c.argTypes.toList.zip c.args.toList).map λ(t,x)=>(false,t,x)) (List.replicate c.args.size none)with
    | some (l, b) => bif b && (l.all lO && (!(fn.name == "runtime.NumGoroutine") && (!fn.body.isNone && Nat.beq c.argTypes.size c.args.size))) then some (f, l) else none
    |none=>none
   |none=>none
  |_=>none
 |_=>none)else none
theorem Rj {rr:β} {x:Option (List γ)} {k:List γ->Option β} (h:x.bind k=some rr) (hB:∀l l',(Am l).B=(Am l').B/\(Am l).pin=none) (e:∀v,x=some v->LQ P f (Am xl) l (Am v)) (hk:∀v,k v=some rr->RW P N ops (i+1) (({E with amb:=Am v}:St).put (oA ops i).dst (.tup [])) Q) (hc:z8 P N ops E i=some (f,l):=by kernel_rfl) (hA:E.amb=Am xl:=by kernel_rfl):RW P N ops i E Q:=by
 unfold z8 at hc
 cases hb:(PX P ops E i&&Gw N (oA ops i))with
 |false=>rw [hb]at hc;cases hc
 |true=>
  rw [hb]at hc;simp only [Ae]at hc;simp only [Al]at hb;obtain⟨d,h1,h2,_⟩:=ES hb.2;obtain⟨h8,h9⟩:=HD hb.1;split at hc
  ·rename_i c g;split at hc
   ·rename_i f' a;split at hc
    ·rename_i fn j;split at hc
     ·rename_i l' b m
      cases hq : (b && (l'.all lO && (!(fn.name == "runtime.NumGoroutine") && (!fn.body.isNone && Nat.beq c.argTypes.size c.args.size)))) with
      |false=>rw [hq]at hc;cases hc
      |true=>
       rw [hq]at hc;simp only [Ae,An,Bv]at hc;obtain⟨rfl,rfl⟩:=hc;simp only [Al,CE]at hq;obtain⟨rfl,q1,q2,q3,q4⟩:=hq;unfold RW;rw [G3 h8];refine AAZ (fn:=fn) h d Am (A:=Am xl) (args:=c.args) (tys:=c.argTypes) ?_ hA (λv=>⟨(hB _ _).1,(hB _ v).2⟩) m (Yq q1) e (λv _ hv=>by have:=hk v hv;rw [h1]at this;exact this) j q2 q3 h1 h2 (B3 q4) h9;rw [g];cases c;simp only at a;rw [a]
     cases hc
    cases hc
   cases hc
  cases hc
theorem ra {Am:α->PV} {e:Exit} {v r:α} (h:some v=some r) (he:e= .normal\/e= .ret:=by first|exact .inr rfl|exact .inl rfl) (hA:E.amb=Am v:=by kernel_rfl):(e= .normal\/e= .ret)/\E.amb=Am r:=by
 injection h with h
 rw [<-h];exact⟨he,hA⟩
structure RS where
 s:List (Nat×SV)
 b:List (Root×List TV)
 a:PV
def RS.st (x:RS):St:=ABo x.s x.b x.a
abbrev rs (s:List (Nat×SV)) (b:List (Root×List TV)):RS:=⟨s,b,PV.none⟩
abbrev Qx (s:List (Nat×SV)) (b:List (Root×List TV)) (a:PV):RS:=⟨s,b,a⟩
def RS.in (X:RS) (E:St):Bool:=X.b.all λr=>r.1.mem&&(E.boxes r.1).isSome
def RS.nf (X:RS) (E:St):St:=LK E (X.s.map Prod.fst) (X.b.map Prod.fst)
def Wu (X:RS) (E:St):Prop:=X.in E=true/\X.nf E=X.st
def jR (H:V->RS) (v:Option V) (Q:Exit->St->Prop):Exit->St->Prop
 | .normal,E=>∃a,v=some a/\Wu (H a) E
 |e,E=>Q e E
def lR (id:Nat) (H:S->RS) (H2:V->RS) (o:S⊕(V⊕W)) (Q:Exit->St->Prop):Exit->St->Prop
 | .normal,E=>∃s,o= .inl s/\Wu (H s) E
 | .exit i,E=>if i=id then∃v,o= .inr (.inl v)/\Wu (H2 v) E else Q (.exit i) E
 |e,E=>Q e E
def lR1 (id:Nat) (H:S->RS) (H2:V->RS) (o:S⊕V) (Q:Exit->St->Prop):Exit->St->Prop
 | .normal,E=>∃s,o= .inl s/\Wu (H s) E
 | .exit i,E=>if i=id then∃v,o= .inr v/\Wu (H2 v) E else Q (.exit i) E
 |e,E=>Q e E
variable {X:RS} {H:V->RS} {H2:V->RS}
theorem AD (h:Wu X E) (hw:Wp P N c X.st Q):Wp P N c E Q:=Wp.norm _ _ _ (by rw [List.all_map];exact h.1) h.2 hw
theorem Wb {x:Option V} (h:x.bind k=some r) (H:V->RS) (h1:∀a,x=some a->Wp P N c E (jR H (some a) Q)) (h2:∀a,k a=some r->∀E',Wu (H a) E'->Q .normal E'):Wp P N c E Q:=by
 obtain⟨a,ha,h⟩:=Ar.1 h
 refine Wp.mono (h1 a ha) λe E' hq=>?_
 cases e<;>try exact hq
 obtain⟨a',h3,h4⟩:=hq
 injection h3 with h3
 subst h3;exact h2 a h E' h4
theorem fj2 {x:Option (V⊕W)} {k:V⊕W->Option β} (h:x.bind k=some r) (H:V->RS) (h1:∀a,x=some a->k a=some r->Wp P N c E (jR H a.getLeft? Q)) (h2:∀a,k (.inl a)=some r->∀E',Wu (H a) E'->Q .normal E'):Wp P N c E Q:=by
 obtain⟨a,ha,h⟩:=Ar.1 h
 refine Wp.mono (h1 a ha h) λe E' hq=>?_
 cases e<;>try exact hq
 obtain⟨a',h3,h4⟩:=hq
 cases a with
 |inl a=>
  injection h3 with h3
  subst h3;exact h2 a h E' h4
 |inr w=>cases h3
theorem Qy {A:Type} {H:S->RS} {a:A} {Q':Exit->St->Prop} {body:S->Option (S⊕A)} (hb:∀s o,body s=some o->(∀a',o= .inr a'->a'=a)->Wp P N c (H s).st (λe E=>match e with| .normal=>∃s,o= .inl s/\Wu (H s) E|e=>Q' e E)):
  ∀{n:Nat} {s:S} {E:St},Wu (H s) E->Pa body n s=some a->Yv P N c Q' n E
 |0,s,E,_,h=>by cases h
 |n+1,s,E,hn,h=>by
  simp only [Pa]at h;simp only [Yv];refine AD hn ?_;split at h
  ·cases h
  ·rename_i s' hs
   refine Wp.mono (hb s _ hs (λa' h=>by cases h)) λe E' hq=>?_
   cases e<;>try exact hq
   obtain⟨s2,h2,h3⟩:=hq
   injection h2 with h2
   subst h2;exact Qy hb h3 h
  rename_i a' hs
  injection h with h
  refine Wp.mono (hb s _ hs (λa2 h2=>by injection h2 with h2;rw [<-h2,h])) λe E' hq=>?_
  cases e<;>try exact hq
  obtain⟨s2,h2,h3⟩:=hq;cases h2
theorem ABt {id:Nat} {k:V⊕W->Option β} {H:S->RS} {body:S->Option (S⊕(V⊕W))} (h:(Au body s0).bind k=some r) (h0:Wu (H s0) E) (hb:∀s o,body s=some o->(∀w,o= .inr (.inr w)->k (.inr w)=some r)->Wp P N c (H s).st (lR id H H2 o Q)) (h2:∀v,k (.inl v)=some r->∀E',Wu (H2 v) E'->Q .normal E'):Wp P N (.block id (.loop c)) E Q:=by
 obtain⟨a,ha,h⟩:=Ar.1 h;obtain⟨n,hn⟩:=H7.1 ha;refine Wp.block (Wp.loop n (Qy (H:=H) (a:=a) (λs o hs ho=>?_) h0 hn))
 refine Wp.mono (hb s o hs (λw hw=>by rw [ho _ hw];exact h)) λe E' hq=>?_
 cases e<;>try exact hq
 simp only [lR]at hq;simp only [Yo];split
 ·rename_i b;rw [Ax b]at hq;obtain⟨v,h3,h4⟩:=hq;have h5:=ho _ h3;subst h5;exact h2 v h E' h4
 rename_i b;rw [Ay b]at hq;exact hq
theorem ABu {id:Nat} {H:S->RS} {body:S->Option (S⊕V)} (h:(Au body s0).bind k=some r) (h0:Wu (H s0) E) (hb:∀s o,body s=some o->Wp P N c (H s).st (lR1 id H H2 o Q)) (h2:∀v,k v=some r->∀E',Wu (H2 v) E'->Q .normal E'):Wp P N (.block id (.loop c)) E Q:=by
 obtain⟨a,ha,h⟩:=Ar.1 h;obtain⟨n,hn⟩:=H7.1 ha;refine Wp.block (Wp.loop n (Qy (H:=H) (a:=a) (λs o hs ho=>?_) h0 hn))
 refine Wp.mono (hb s o hs) λe E' hq=>?_
 cases e<;>try exact hq
 simp only [lR1]at hq;simp only [Yo];split
 ·rename_i b;rw [Ax b]at hq;obtain⟨v,h3,h4⟩:=hq;have h5:=ho _ h3;subst h5;exact h2 v h E' h4
 rename_i b;rw [Ay b]at hq;exact hq
theorem Nk {id:Nat} {k:V⊕W->Option β} {body:S->Option (S⊕(V⊕W))} (h:(Au body s0).bind k=some r) (H:S->RS) (H2:V->RS) (hb:∀s o,body s=some o->(∀w,o= .inr (.inr w)->k (.inr w)=some r)->Wp P N c (H s).st (lR id H H2 o Q)) (h2:∀v,k (.inl v)=some r->∀E',Wu (H2 v) E'->Q .normal E') (h0:(H s0).in E=true:=by kernel_rfl) (hn:(H s0).nf E=(H s0).st:=by kernel_rfl):Wp P N (.block id (.loop c)) E Q:=ABt h ⟨h0,hn⟩ hb h2
theorem Gv {id:Nat} {body:S->Option (S⊕V)} (h:(Au body s0).bind k=some r) (H:S->RS) (H2:V->RS) (hb:∀s o,body s=some o->Wp P N c (H s).st (lR1 id H H2 o Q)) (h2:∀v,k v=some r->∀E',Wu (H2 v) E'->Q .normal E') (h0:(H s0).in E=true:=by kernel_rfl) (hn:(H s0).nf E=(H s0).st:=by kernel_rfl):Wp P N (.block id (.loop c)) E Q:=ABu h ⟨h0,hn⟩ hb h2
theorem Es {x:Option V} (h:x.bind k=some r) (H:V->RS) (h1:∀a,x=some a->Wp P N c E (jR H (some a) (PM (λE'=>Wp P N y E' Q) Q))) (h2:∀a,k a=some r->Wp P N y (H a).st Q):Wp P N (.seq c y) E Q:=Wp.seq (Wb h H h1 λa ha E' hE=>AD hE (h2 a ha))
theorem vU {id:Nat} {body:S->Option (S⊕V)} (h:(Au body s0).bind k=some r) (H:S->RS) (H2:V->RS) (hb:∀s o,body s=some o->Wp P N c (H s).st (lR1 id H H2 o (PM (λE'=>Wp P N y E' Q) Q))) (h2:∀v,k v=some r->Wp P N y (H2 v).st Q) (h0:(H s0).in E=true:=by kernel_rfl) (hn:(H s0).nf E=(H s0).st:=by kernel_rfl):Wp P N (.seq (.block id (.loop c)) y) E Q:=Wp.seq (ABu h ⟨h0,hn⟩ hb λv hv E' hE=>AD hE (h2 v hv))
theorem yl2 {id:Nat} {k:V⊕W->Option β} {body:S->Option (S⊕(V⊕W))} (h:(Au body s0).bind k=some r) (H:S->RS) (H2:V->RS) (hb:∀s o,body s=some o->(∀w,o= .inr (.inr w)->k (.inr w)=some r)->Wp P N c (H s).st (lR id H H2 o (PM (λE'=>Wp P N y E' Q) Q))) (h2:∀v,k (.inl v)=some r->Wp P N y (H2 v).st Q) (h0:(H s0).in E=true:=by kernel_rfl) (hn:(H s0).nf E=(H s0).st:=by kernel_rfl):Wp P N (.seq (.block id (.loop c)) y) E Q:=Wp.seq (ABt h ⟨h0,hn⟩ hb λv hv E' hE=>AD hE (h2 v hv))
theorem en {a:V} (h:some v=some a) (hb:(H v).in E=true:=by kernel_rfl) (hn:(H v).nf E=(H v).st:=by kernel_rfl):∃a',some a=some a'/\Wu (H a') E:=by
 injection h with h
 subst h;exact⟨_,rfl,hb,hn⟩
theorem em {a:V⊕W} (h:some (.inl v)=some a) (hb:(H v).in E=true:=by kernel_rfl) (hn:(H v).nf E=(H v).st:=by kernel_rfl):∃a',a.getLeft? =some a'/\Wu (H a') E:=by
 injection h with h
 subst h;exact⟨_,rfl,hb,hn⟩
theorem el {H:S->RS} {o:S⊕W} {s:S} (h:some (.inl s)=some o) (hb:(H s).in E=true:=by kernel_rfl) (hn:(H s).nf E=(H s).st:=by kernel_rfl):∃s,o= .inl s/\Wu (H s) E:=by
 injection h with h
 subst h;exact⟨_,rfl,hb,hn⟩
theorem ex {o:S⊕(V⊕W)} (h:some (.inr (.inl v))=some o) (hb:(H v).in E=true:=by kernel_rfl) (hn:(H v).nf E=(H v).st:=by kernel_rfl):∃v,o= .inr (.inl v)/\Wu (H v) E:=by
 injection h with h
 subst h;exact⟨_,rfl,hb,hn⟩
theorem ev {o:S⊕V} (h:some (.inr v)=some o) (hb:(H v).in E=true:=by kernel_rfl) (hn:(H v).nf E=(H v).st:=by kernel_rfl):∃v,o= .inr v/\Wu (H v) E:=by
 injection h with h
 subst h;exact⟨_,rfl,hb,hn⟩
def AAw (P:Program) (N:Nat) (ops:Array Oper) (ts mv dn:List Nat) (E:St) (X:RS):Bool:=match pH P N ops ts mv (ops.size+1) dn E with
 |some L=>L.all λE'=>X.in E'
 |none=>false
theorem wW {ts:List Nat} {mv:List Nat} (hb:AAw P N ops ts mv dn E X=true) (hn:(s9 P N ops ts mv dn E).map X.nf=(s9 P N ops ts mv dn E).map λ_=>X.st) (hq:∀E',Wu X E'->Q .normal E'):KW P N ops ts dn E Q:=by
 unfold AAw at hb;split at hb
 ·rename_i L hL
  refine mL hL λE' hE=>hq E' ⟨GO.1 hb E' hE,?_⟩
  rw [s9,hL,B6]at hn;have:∀(L:List St),L.map X.nf=L.map (λ_=>X.st)->∀E'∈L,X.nf E'=X.st:=by
   intro L
   induction L with
   |nil=>intro _ _ h;cases h
   |cons x L ih=>
    intro h E' hE;rw [Cb,Cb]at h
    injection h with h1 h2
    rcases BA.1 hE with rfl|hE
    ·exact h1
    exact ih h2 E' hE
  exact this L hn E' hE
 cases hb
section
variable {ts:List Nat}
theorem Nl {a:V} {Q0:Exit->St->Prop} (mv:List Nat) (h:some v=some a) (hb:AAw P N ops ts mv dn E (H v)=true:=by kernel_rfl) (hn:(s9 P N ops ts mv dn E).map (H v).nf=(s9 P N ops ts mv dn E).map (λ_=>(H v).st):=by kernel_rfl):KW P N ops ts dn E (jR H (some a) Q0):=
 wW hb hn λE' hE=>by
  injection h with h
  subst h;exact⟨_,rfl,hE⟩
end
theorem rk (k:Nat) (h:RW P N ops (i+k) (PS P N ops k 0 i E) Q) (hk:(RY P N ops k 0 i E).isSome=true:=by kernel_rfl):RW P N ops i E Q:=qR k 0 h hk
theorem rkm (k m:Nat) (h:RW P N ops (i+k) (PS P N ops k m i E) Q) (hk:(RY P N ops k m i E).isSome=true:=by kernel_rfl):RW P N ops i E Q:=qR k m h hk
theorem wO (a b:Nat):Nat.ble a (b+(a-b))=true:=by rw [O5];omega
theorem gm (m:Nat) (h:Q .normal (PS P N ops (ops.size-i) m i E)) (hk:(RY P N ops (ops.size-i) m i E).isSome=true:=by kernel_rfl):RW P N ops i E Q:=qR (ops.size-i) m (RW.nil h (wO _ _)) hk
theorem g0 (h:Q .normal (PS P N ops (ops.size-i) 0 i E)) (hk:(RY P N ops (ops.size-i) 0 i E).isSome=true:=by kernel_rfl):RW P N ops i E Q:=gm 0 h hk
section
variable {id:Nat}
theorem wm (m:Nat) (h:RW P N ops2 0 (PS P N ops (ops.size-i) m i E) (PM (λE'=>Wp P N y E' Q) Q)) (hk:(RY P N ops (ops.size-i) m i E).isSome=true:=by kernel_rfl):RW P N ops i E (PM (λE'=>Wp P N (.seq (.region id ops2 false) y) E' Q) Q):=gm m (ws h) hk
end
section
variable {id:Nat}
theorem w0 (h:RW P N ops2 0 (PS P N ops (ops.size-i) 0 i E) (PM (λE'=>Wp P N y E' Q) Q)) (hk:(RY P N ops (ops.size-i) 0 i E).isSome=true:=by kernel_rfl):RW P N ops i E (PM (λE'=>Wp P N (.seq (.region id ops2 false) y) E' Q) Q):=wm 0 h hk
end
section
variable {id:Nat}
theorem wg (h:PM (λE'=>Wp P N y E' Q) Q .normal (PS P N ops (ops.size-0) 0 0 E)) (hk:(RY P N ops (ops.size-0) 0 0 E).isSome=true:=by kernel_rfl):Wp P N (.seq (.region id ops false) y) E Q:=ws (g0 h hk)
end
section
variable {x:Code}
theorem qs (h:Wp P N x E (PM (λE'=>Wp P N y E' Q) Q)):Wp P N (.seq x y) E Q:=Wp.seq h
end
theorem qk (h:Q .normal E):Wp P N .skip E Q:=Wp.skip h
theorem qt (h:Q .ret E):Wp P N .ret E Q:=Wp.ret h
theorem qx {id:Nat} (h:Q (.exit id) E):Wp P N (.exit id) E Q:=Wp.exit h
theorem qb {id:Nat} (h:Wp P N c E (Yo id Q)):Wp P N (.block id c) E Q:=Wp.block h
theorem qr {id:Nat} (h:RW P N ops 0 E Q):Wp P N (.region id ops false) E Q:=AAc h
theorem aq {s:SV} (hp:Bl P E (oA ops i)=some s) (h:RW P N ops (i+1) (E.put (oA ops i).dst s) Q) (hk:sM P N ops i E=true:=by kernel_rfl):RW P N ops i E Q:=RW.q hp h hk
theorem CX {s:SV} (k:Nat) (hp:Bl P (PS P N ops k 0 i E) (oA ops (i+k))=some s) (h:RW P N ops (i+k+1) ((PS P N ops k 0 i E).put (oA ops (i+k)).dst s) Q) (hk:(RY P N ops k 0 i E).isSome=true:=by kernel_rfl) (hq:sM P N ops (i+k) (PS P N ops k 0 i E)=true:=by kernel_rfl):RW P N ops i E Q:=qR k 0 (RW.q hp h hq) hk
theorem kq {ts:List Nat} {s:SV} (i:Nat) (hp:Bl P E (oA ops i)=some s) (h:KW P N ops ts (i::dn) (E.put (oA ops i).dst s) Q) (hk:(sM P N ops i E&&jB ops ts dn i)=true:=by kernel_rfl):KW P N ops ts dn E Q:=KW.q i hp h hk
theorem ac (h:x.bind kk=some r) {enc:α->SV} (a:∀v,x=some v->AL P (O1 (oA ops i)) l (enc v) (List.replicate n .gone)) (hk:∀v,kk v=some r->RW P N ops (i+1) ((vZ P E (oA ops i) 0).put (oA ops i).dst (enc v)) Q) (b:YD P E (oA ops i) 0=some l:=by kernel_rfl) (hc:vW P E (oA ops i) 0=true\/∀v,Bh (enc v)=false:=by exact .inl (by kernel_rfl)) (ho:(PX P ops E i&&Sa P N (oA ops i))=true:=by kernel_rfl):RW P N ops i E Q:=RW.c 0 h a (λv _=>hk v) b hc ho
theorem BM (k:Nat) (h:x.bind kk=some r) {enc:α->SV} (a:∀v,x=some v->AL P (O1 (oA ops (i+k))) l (enc v) (List.replicate n .gone)) (hk:∀v,kk v=some r->RW P N ops (i+k+1) ((vZ P (PS P N ops k 0 i E) (oA ops (i+k)) 0).put (oA ops (i+k)).dst (enc v)) Q) (hr:(RY P N ops k 0 i E).isSome=true:=by kernel_rfl) (b:YD P (PS P N ops k 0 i E) (oA ops (i+k)) 0=some l:=by kernel_rfl) (hc:vW P (PS P N ops k 0 i E) (oA ops (i+k)) 0=true\/∀v,Bh (enc v)=false:=by exact .inl (by kernel_rfl)) (ho:(PX P ops (PS P N ops k 0 i E) (i+k)&&Sa P N (oA ops (i+k)))=true:=by kernel_rfl):RW P N ops i E Q:=qR k 0 (RW.c 0 h a (λv _=>hk v) b hc ho) hr
theorem acm (m:Nat) (h:x.bind kk=some r) {enc:α->SV} (a:∀v,x=some v->AL P (O1 (oA ops i)) l (enc v) (List.replicate n .gone)) (hk:∀v,kk v=some r->RW P N ops (i+1) ((vZ P E (oA ops i) m).put (oA ops i).dst (enc v)) Q) (b:YD P E (oA ops i) m=some l:=by kernel_rfl) (hc:vW P E (oA ops i) m=true\/∀v,Bh (enc v)=false:=by exact .inl (by kernel_rfl)) (ho:(PX P ops E i&&Sa P N (oA ops i))=true:=by kernel_rfl):RW P N ops i E Q:=RW.c m h a (λv _=>hk v) b hc ho
section
variable {ts:List Nat}
theorem Fc (m:Nat) (h:x.bind kk=some r) {enc:α->SV} (a:∀v,x=some v->AL P (O1 (oA ops i)) l (enc v) (List.replicate n .gone)) (hk:∀v,kk v=some r->KW P N ops ts (i::dn) ((vZ P E (oA ops i) m).put (oA ops i).dst (enc v)) Q) (b:YD P E (oA ops i) m=some l:=by kernel_rfl) (hc:vW P E (oA ops i) m=true\/∀v,Bh (enc v)=false:=by exact .inl (by kernel_rfl)) (ho:(PX P ops E i&&Sa P N (oA ops i)&&((bits m (Gr (oA ops i))).all (λx=>!x.1)||ts.contains i))=true:=by kernel_rfl):KB P N ops ts dn i E Q:=KB.c m h a (λv _=>hk v) b hc ho
end
theorem Sb (h:x.bind kk=some r) {enc:α->SV} {a:List TV} (c:∀v,x=some v->AL P (O1 (oA ops i)) (.ext a::l) (enc v) (.ext (fin v)::List.replicate n .gone)) (hk:∀v,kk v=some r->RW P N ops (i+1) (((E.setRoot (iB E (oA ops i)) (fin v)).bump (iB E (oA ops i))).put (oA ops i).dst (enc v)) Q) (b:∀v,(fin v).length=a.length:=by exact λ_=>rfl) (d:qJ P E (oA ops i)=some l:=by kernel_rfl) (hb:E.boxes (iB E (oA ops i))=some a:=by kernel_rfl) (hc:cxB P E (oA ops i)=true\/∀v,Bh (enc v)=false/\AF (fin v)=false:=by exact .inl (by kernel_rfl)) (ho:(PX P ops E i&&Sa P N (oA ops i)&&qI E (oA ops i))=true:=by kernel_rfl):RW P N ops i E Q:=ABF h c b (λv _=>hk v) d hb hc ho
theorem kcx {ts:List Nat} (h:x.bind kk=some r) {enc:α->SV} {a:List TV} (c:∀v,x=some v->AL P (O1 (oA ops i)) (.ext a::l) (enc v) (.ext (fin v)::List.replicate n .gone)) (hk:∀v,kk v=some r->KW P N ops ts (i::dn) (((E.setRoot (iB E (oA ops i)) (fin v)).bump (iB E (oA ops i))).put (oA ops i).dst (enc v)) Q) (b:∀v,(fin v).length=a.length:=by exact λ_=>rfl) (d:qJ P E (oA ops i)=some l:=by kernel_rfl) (hb:E.boxes (iB E (oA ops i))=some a:=by kernel_rfl) (hc:cxB P E (oA ops i)=true\/∀v,Bh (enc v)=false/\AF (fin v)=false:=by exact .inl (by kernel_rfl)) (ho:(PX P ops E i&&Sa P N (oA ops i)&&qI E (oA ops i)&&ts.contains i)=true:=by kernel_rfl):KB P N ops ts dn i E Q:=ABH h c b (λv _=>hk v) d hb hc ho
theorem Cv {tx ty:Option β} {b:Bool} (k t:Nat) (h:(bif b then tx else ty)=some r) (ht:tx=some r->RW P N ops (i+k) ((PS P N ops k 0 i E).rs t true) Q) (hf:ty=some r->RW P N ops (i+k) ((PS P N ops k 0 i E).rs t false) Q) (hr:(RY P N ops k 0 i E).isSome=true:=by kernel_rfl) (hc:(PS P N ops k 0 i E).slots t=B b:=by kernel_rfl):RW P N ops i E Q:=qR k 0 (ABC t h ht hf hc) hr
def Yn (fn:Func):Code:=fn.body.getD .skip
theorem Vj (h:fn.body.isSome=true):fn.body=some (Yn fn):=by
 unfold Yn
 cases e:fn.body with
 |none=>rw [e]at h;cases h
 |some c=>rfl
theorem gf {a:SV} (hf:P.funcs[f]?=some fn) (hN:fn.ntmps=N) (h:Wp P N (Yn fn) (DH as) λe E=>(e= .normal\/e= .ret)/\∃ss E',DU P E fn.results.toList=some (ss,E')/\EC ss=a) (hb:fn.body.isSome=true:=by kernel_rfl):AL P f as a (List.replicate as.length .gone):=gk hf (Vj hb) hN h
theorem gfa {A':PV} (hf:P.funcs[f]?=some fn) (hN:fn.ntmps=N) (hB:∀l l',(Am l).B=(Am l').B/\(Am l).pin=none) (h:Wp P N (Yn fn) (DH as (Am xl)) λe E=>(e= .normal\/e= .ret)/\E.amb=A') (hb:fn.body.isSome=true:=by kernel_rfl) (hr:fn.results= #[]:=by rfl):LQ P f (Am xl) as A':=qE hf (Vj hb) hr (hB xl xl).2 (by rw [hN];exact h)
theorem q8 {a cells':List TV} {b:SV} (hf:P.funcs[f]?=some fn) (hN:fn.ntmps=N) (h:Wp P N (Yn fn) (DH (.ext a::as)) λe E=>(e= .normal\/e= .ret)/\∃ss E',DU P E fn.results.toList=some (ss,E')/\EC ss=b/\E'.boxes (.ext 0)=some cells') (hb:fn.body.isSome=true:=by kernel_rfl) (c:cells'.isEmpty=false:=by rfl):AL P f (.ext a::as) b (.ext cells'::List.replicate as.length .gone):=gkx hf (Vj hb) hN h c
theorem ACb (h:Wu X E) {a:List TV} (hc:X.st.boxes (.ext 0)=some a:=by kernel_rfl):(Exit.normal= .normal\/Exit.normal= .ret)/\∃ss E1,DU P E []=some (ss,E1)/\EC ss= .tup []/\E1.boxes (.ext 0)=some a:=by
 refine⟨.inl rfl,[],E,rfl,rfl,?_⟩;obtain⟨h1,h2⟩:=h;rw [<-h2]at hc;unfold RS.nf at hc;by_cases hm:(X.b.map Prod.fst).contains (.ext 0)=true
 ·have e:(LK E (X.s.map Prod.fst) (X.b.map Prod.fst)).boxes (.ext 0)=some ((E.boxes (.ext 0)).getD []):=by
   show((X.b.map Prod.fst).map λr=>(r,(E.boxes r).getD [])).lookup (.ext 0)=_;rw [Hi (f:=λr=>(E.boxes r).getD []),Ax hm]
  rw [e]at hc;unfold RS.in at h1;have h3:((E.boxes (.ext 0)).isSome)=true:=by
   have h4:=GO.1 h1;have c:Root.ext 0∈X.b.map Prod.fst:=by simpa using hm
   obtain⟨z,z1,z2⟩:=AJ.1 c;have:=h4 z z1;rw [z2,Al]at this;exact this.2
  cases he:E.boxes (.ext 0)with
  |none=>rw [he]at h3;cases h3
  |some v=>rw [he]at hc;exact hc
 have e:(LK E (X.s.map Prod.fst) (X.b.map Prod.fst)).boxes (.ext 0)=none:=by
  show((X.b.map Prod.fst).map λr=>(r,(E.boxes r).getD [])).lookup (.ext 0)=_;rw [Hi (f:=λr=>(E.boxes r).getD []),Ay hm]
 rw [e]at hc;cases hc
theorem xI {Am:α->PV} {v r:α} (h:some v=some r) (hE:Wu X E) (hX:X.st.amb=Am v:=by kernel_rfl):(Exit.normal= .normal\/Exit.normal= .ret)/\E.amb=Am r:=by
 injection h with h
 rw [<-h,<-hX,<-hE.2];exact⟨.inl rfl,rfl⟩
theorem NK {n:Int} (h1: -9223372036854775808<=n) (h2:n<=9223372036854775807):IntKind.i64.wrap n=n:=by rw [IntKind.wrap_i64];omega
theorem CA {a b:Int} (h1: -9223372036854775808<=a+b) (h2:a+b<=9223372036854775807):ad a b=a+b:=NK h1 h2
theorem Cw {a b:Int} (h1: -9223372036854775808<=a-b) (h2:a-b<=9223372036854775807):sb a b=a-b:=NK h1 h2
theorem On {a b:Int} (h1: -9223372036854775808<=a*b) (h2:a*b<=9223372036854775807):ml a b=a*b:=NK h1 h2
theorem ad1 (h:i<9223372036854775807):ad (i:Int) 1=((i+1:Nat):Int):=by rw [CA]<;>omega
theorem JT (a b:ByteArray):seq a b=decide (a=b):=by
 unfold seq;rw [DR,Dt,A5];constructor
 ·intro h;rw [ByteArray.toList_eq,ByteArray.toList_eq]at h;cases a;cases b;simp only [ByteArray.mk.injEq];exact Sc h
 intro h;rw [h]
theorem A9 {l:List α}:gi l (i:Int)=l[i]? :=by
 unfold gi;rw [Ax (by omega)];simp
theorem Ep {l:List α} {x:α}:si l (i:Int) x=l.set i x:=by simp [si]
theorem AC {l:List α}:decide ((i:Int)<ln l)=decide (i<l.length):=by
 rw [DR,A5,A5];simp [ln]
def Oy (step:σ->Nat->α->σ⊕β) (fin:σ->β):List α->Nat->σ->β
 |[],_,s=>fin s
 |x::l,i,s=>match step s i x with
  | .inl s'=>Oy step fin l (i+1) s'
  | .inr b=>b
theorem ZX {body:S->Option (S⊕β)} (a:σ->Int->S) (l:List α) (step:σ->Nat->α->σ⊕β) (fin:σ->β) (c:Nat->σ->Prop) (h1:∀s i x,l[i]?=some x->c i s->body (a s (i:Nat))=some (match step s i x with| .inl s'=> .inl (a s' ((i+1:Nat):Int))| .inr b=> .inr b)/\∀s',step s i x= .inl s'->c (i+1) s') (h2:∀s,c l.length s->body (a s (l.length:Nat))=some (.inr (fin s))):∀(n i:Nat) (s:σ),i+n=l.length->c i s->Au body (a s (i:Nat))=some (Oy step fin (l.drop i) i s)
 |0,i,s,hi,hs=>by
  have:i=l.length:=by omega
  subst this;rw [A7,h2 s hs,CZ (A4 _)];rfl
 |n+1,i,s,hi,hs=>by
  have d:i<l.length:=by omega
  obtain⟨h3,h4⟩:=h1 s i l[i] (Ac d) hs;rw [A7,h3,Bj d,Oy]
  cases e:step s i l[i]with
  |inl s'=>simp only [];exact ZX a l step fin c h1 h2 n (i+1) s' (by omega) (h4 s' e)
  |inr b=>rfl
theorem Pm {body:S->Option (S⊕β)} (a:σ->Int->S) (l:List α) (step:σ->Nat->α->σ⊕β) (fin:σ->β) (c:Nat->σ->Prop) (h1:∀s i x,l[i]?=some x->c i s->body (a s (i:Nat))=some (match step s i x with| .inl s'=> .inl (a s' ((i+1:Nat):Int))| .inr b=> .inr b)/\∀s',step s i x= .inl s'->c (i+1) s') (h2:∀s,c l.length s->body (a s (l.length:Nat))=some (.inr (fin s))) (hs:c 0 s):Au body (a s 0)=some (Oy step fin l 0 s):=
 ZX a l step fin c h1 h2 l.length 0 s (by omega) hs
theorem oJ {body:Int->Option (Int⊕(Unit⊕Bool))} (a:List α) (b:List β) (p:α->β->Bool) (hl:a.length=b.length) (hM:a.length<=9223372036854775807) (h1:∀(i:Nat) x y,a[i]?=some x->b[i]?=some y->body (i:Nat)=some (bif p x y then .inl (((i+1:Nat)):Int)else .inr (.inr false))) (h2:body (a.length:Nat)=some (.inr (.inl ()))):
  Au body 0=some (bif(a.zip b).all (λz=>p z.1 z.2)then .inl ()else .inr false):=by
 have hz:(a.zip b).length=a.length:=by simp [hl]
 have:=Pm (body:=body) (λ(_:Unit) i=>i) (a.zip b) (λ_ _ z=>bif p z.1 z.2 then .inl ()else .inr (.inr false)) (λ_=> .inl ()) (λ_ _=>True)
  (λs i x hx _=>by
   refine⟨?_,λ_ _=>trivial⟩;obtain⟨x1,x2⟩:=x;have hx':=Ah.1 hx;obtain⟨d,hx'⟩:=hx';rw [List.getElem_zip]at hx'
   injection hx' with e1 e2
   rw [h1 i x1 x2 (by rw [<-e1];exact Ac _) (by rw [<-e2];exact Ac _)];simp only
   cases p x1 x2<;>rfl)
  (λs _=>by rw [hz];exact h2) (s:=()) trivial
 rw [this];have c:∀(m:List (α×β)) (i:Nat),Oy (λ(_:Unit) _ z=>bif p z.1 z.2 then .inl ()else .inr (.inr false)) (λ_=>(.inl ():Unit⊕Bool)) m i ()=bif m.all (λz=>p z.1 z.2)then .inl ()else .inr false:=by
  intro m
  induction m with
  |nil=>intro i;rfl
  |cons z m ih=>
   intro i;simp only [Oy,EJ]
   cases p z.1 z.2 with
   |false=>rfl
   |true=>simp only [Ae,CC];exact ih _
 rw [c]
theorem mU {p:α->α->Bool}:∀{a b:List α},(∀x∈a,∀y∈b,(p x y=true↔x=y))->a.length=b.length->((a.zip b).all (λz=>p z.1 z.2)=true↔a=b)
 |[],[],_,_=>by simp
 |x::a,y::b,hp,h=>by
  have ih:=mU (p:=p) (a:=a) (b:=b) (λx' hx y' hy=>hp x' (Dq _ hx) y' (Dq _ hy)) (by simpa using h);simp only [List.zip_cons_cons,EJ,Al,ih,hp x CI y CI,PU]
 |[],_::_,_,h=>by simp at h
 |_::_,[],_,h=>by simp at h
theorem TO {body:S->Option (S⊕β)} (a:σ->Int->S) (n:Nat) (c:Nat->σ->Prop) (Q:β->Prop) (h1:∀s i,i<n->c i s->(∃s',body (a s (i:Nat))=some (.inl (a s' ((i+1:Nat):Int)))/\c (i+1) s')\/∃b,body (a s (i:Nat))=some (.inr b)/\Q b) (h2:∀s,c n s->∃b,body (a s (n:Nat))=some (.inr b)/\Q b):∀(k i:Nat) (s:σ),i+k=n->c i s->∃b,Au body (a s (i:Nat))=some b/\Q b
 |0,i,s,hi,hs=>by
  have:i=n:=by omega
  subst this;obtain⟨b,h3,h4⟩:=h2 s hs;exact⟨b,by rw [A7,h3],h4⟩
 |k+1,i,s,hi,hs=>by
  rcases h1 s i (by omega) hs with⟨s',h3,h4⟩|⟨b,h3,h4⟩
  ·obtain⟨b,h5,h6⟩:=TO a n c Q h1 h2 k (i+1) s' (by omega) h4;exact⟨b,by rw [A7,h3];exact h5,h6⟩
  exact⟨b,by rw [A7,h3],h4⟩
theorem Bg {body:S->Option (S⊕β)} (a:σ->Int->S) (n:Nat) (c:Nat->σ->Prop) (Q:β->Prop) (h1:∀s i,i<n->c i s->(∃s',body (a s (i:Nat))=some (.inl (a s' ((i+1:Nat):Int)))/\c (i+1) s')\/∃b,body (a s (i:Nat))=some (.inr b)/\Q b) (h2:∀s,c n s->∃b,body (a s (n:Nat))=some (.inr b)/\Q b) (hs:c 0 s):∃b,Au body (a s 0)=some b/\Q b:=
 TO a n c Q h1 h2 n 0 s (by omega) hs
theorem UP {body body':S->Option (S⊕β)} (a:σ->Int->S) (n:Nat) (c:Nat->σ->Prop) (Q:β->Prop) (h1:∀s i,i<n->c i s->body' (a s (i:Nat))=body (a s (i:Nat))/\((∃s',body (a s (i:Nat))=some (.inl (a s' ((i+1:Nat):Int)))/\c (i+1) s')\/∃b,body (a s (i:Nat))=some (.inr b)/\Q b)) (h2:∀s,c n s->body' (a s (n:Nat))=body (a s (n:Nat))/\∃b,body (a s (n:Nat))=some (.inr b)/\Q b):∀(k i:Nat) (s:σ),i+k=n->c i s->∃b,Au body (a s (i:Nat))=some b/\Au body' (a s (i:Nat))=some b/\Q b
 |0,i,s,hi,hs=>by
  have:i=n:=by omega
  subst this;obtain⟨e,b,h3,h4⟩:=h2 s hs;exact⟨b,by rw [A7,h3],by rw [A7,e,h3],h4⟩
 |k+1,i,s,hi,hs=>by
  obtain⟨e,h⟩:=h1 s i (by omega) hs
  rcases h with⟨s',h3,h4⟩|⟨b,h3,h4⟩
  ·obtain⟨b,h5,h6,h7⟩:=UP a n c Q h1 h2 k (i+1) s' (by omega) h4;exact⟨b,by rw [A7,h3];exact h5,by rw [A7,e,h3];exact h6,h7⟩
  exact⟨b,by rw [A7,h3],by rw [A7,e,h3],h4⟩
theorem MS {body body':S->Option (S⊕β)} (a:σ->Int->S) (n:Nat) (c:Nat->σ->Prop) (Q:β->Prop) (h1:∀s i,i<n->c i s->body' (a s (i:Nat))=body (a s (i:Nat))/\((∃s',body (a s (i:Nat))=some (.inl (a s' ((i+1:Nat):Int)))/\c (i+1) s')\/∃b,body (a s (i:Nat))=some (.inr b)/\Q b)) (h2:∀s,c n s->body' (a s (n:Nat))=body (a s (n:Nat))/\∃b,body (a s (n:Nat))=some (.inr b)/\Q b) (hs:c 0 s):∃b,Au body (a s 0)=some b/\Au body' (a s 0)=some b/\Q b:=
 UP a n c Q h1 h2 n 0 s (by omega) hs
theorem XA {body:Int->Option (Int⊕β)} (l:List α) (p:Nat->α->Bool) (no yes:β) (hM:l.length<=9223372036854775807) (h1:∀(i:Nat) x,l[i]?=some x->body (i:Nat)=some (bif p i x then .inl (((i+1:Nat)):Int)else .inr no)) (h2:body (l.length:Nat)=some (.inr yes)):
  Au body 0=some (bif l.zipIdx.all (λz=>p z.2 z.1)then yes else no):=by
 have:=Pm (body:=body) (λ(_:Unit) i=>i) l (λ_ i x=>bif p i x then .inl ()else .inr no) (λ_=>yes) (λ_ _=>True)
  (λs i x hx _=>by
   refine⟨?_,λ_ _=>trivial⟩;rw [h1 i x hx]
   cases p i x<;>rfl)
  (λs _=>h2) (s:=()) trivial
 rw [this];have a:∀(m:List α) (i:Nat),Oy (λ(_:Unit) i x=>bif p i x then .inl ()else .inr no) (λ_=>yes) m i ()=bif(m.zipIdx i).all (λz=>p z.2 z.1)then yes else no:=by
  intro m
  induction m with
  |nil=>intro i;rfl
  |cons z m ih=>
   intro i;simp only [Oy,List.zipIdx_cons,EJ]
   cases p i z with
   |false=>rfl
   |true=>simp only [Ae,CC];exact ih _
 rw [a]
theorem TN {body:Int×List γ->Option ((Int×List γ)⊕List γ)} (l:List α) (f:α->γ) (h1:∀(i:Nat) x (a:List γ),l[i]?=some x->a.length=i->body ((i:Nat),a)=some (.inl (((i+1:Nat):Int),a++ [f x]))) (h2:∀a,body ((l.length:Nat),a)=some (.inr a)):
  Au body (0,[])=some (l.map f):=by
 have:=Pm (body:=body) (λ(s:List γ) i=>(i,s)) l (λa _ x=>(.inl (a++ [f x]):List γ⊕List γ)) (λa=>a) (λi a=>a.length=i)
  (λs i x hx hi=>by
   refine⟨h1 i x s hx hi,λs' hs=>?_⟩
   injection hs with hs
   rw [<-hs,Ag,Ak,hi])
  (λs _=>h2 s) (s:=[]) rfl
 rw [this];have b:∀(m:List α) (i:Nat) (a:List γ),Oy (λa _ x=>(.inl (a++ [f x]):List γ⊕List γ)) (λa=>a) m i a=a++m.map f:=by
  intro m
  induction m with
  |nil=>intro i a;simp [Oy]
  |cons z m ih=>
   intro i a;simp only [Oy,ih,Cb,Ap,Cm]
 rw [b,A6]
theorem kR {body:Int×List γ->Option ((Int×List γ)⊕List γ)} (n:Nat) (f:Nat->γ) (h1:∀(i:Nat) (a:List γ),i<n->a.length=i->body ((i:Nat),a)=some (.inl (((i+1:Nat):Int),a++ [f i]))) (h2:∀a,body ((n:Nat),a)=some (.inr a)):
  Au body (0,[])=some ((List.range n).map f):=
 TN (List.range n) f (λi x a hx ho=>by
  obtain⟨b,hx⟩:=Ah.1 hx;rw [List.getElem_range]at hx;rw [<-hx]
  exact h1 i a (by simpa using b) ho) (λa=>by rw [Ca];exact h2 a)
theorem UN {z:α} (h:by_*n<=281474976710656) (h2:n<=9223372036854775807):mk by_ z (n:Int)=some (List.replicate n z):=by
 unfold mk;have:((by_*n:Nat):Int)<=281474976710656:=by omega
 rw [Int.natCast_mul]at this;rw [Ax ⟨by omega,this,by omega⟩,Ba]
theorem Cn {l m:List α} (h:(l.length+m.length)*by_<=140737488355328):ap by_ l m=some (l++m):=Ax h
theorem K2 {l:List α} {i:Int} (h1:0<=i) (h2:i<l.length):gi l i=some (l[i.toNat]'(by omega)):=by
 unfold gi;rw [Ax h1];exact Ac _
theorem BG {l:List α}:ln l=(l.length:Int):=rfl
def L (s:ByteArray):List UInt8:=s.data.toList
theorem Iw {a b:ByteArray} (h:L a=L b):a=b:=by
 cases a;cases b;simp only [L]at h;simp only [ByteArray.mk.injEq];exact Sc h
theorem Y2 (s:ByteArray):(L s).length=s.size:=by cases s;rfl
theorem DC (a b:ByteArray):L (a++b)=L a++L b:=by simp [L]
theorem DV (l:List UInt8):L (bs l)=l:=by simp [L,bs]
theorem Jw (l:List Int):L (EG l)=l.map λn=>UInt8.ofNat n.toNat:=strOfNums_data l
theorem HM (s:ByteArray) (i j:Nat):L (s.extract i j)=((L s).drop i).take (j-i):=by
 have:s=ByteArray.mk (L s).toArray:=by cases s;simp [L]
 rw [this,ByteArray.extract_mk];simp [L]
theorem BH (s:ByteArray):Fz s=((L s).length:Int):=by rw [Y2];rfl
theorem EU (s:ByteArray) (h:i<(L s).length):sx s (i:Int)=some (((L s)[i]).toNat:Int):=by
 have h':i<s.size:=by rw [<-Y2];exact h
 unfold sx;rw [Ax ⟨by omega,by omega⟩];unfold Bl.bt;rw [dif_pos (by simpa using h')];rfl
theorem EV {j:Nat} (s:ByteArray) (h1:i<=j) (h2:j<=(L s).length):sub s (i:Int) (j:Int)=some (s.extract i j):=by
 rw [Y2]at h2;unfold sub;rw [Ax ⟨by omega,by omega,by omega⟩,Ba,Ba]
theorem FE (a b:ByteArray) (h:(L a).length+(L b).length<=9223372036854775807):HO a b=some (a++b):=by
 rw [Y2,Y2]at h;unfold HO;rw [Ay (by omega)]
theorem Qm (a b:ByteArray):seq a b=decide (L a=L b):=by
 rw [JT,DR,A5,A5];exact⟨λh=>by rw [h],Iw⟩
def Cy (n:Nat):List UInt8:=if h:n<=127 then [UInt8.ofNat n]else UInt8.ofNat (n %128+128)::Cy (n/128)
termination_by n
decreasing_by omega
def Ff:List UInt8->Nat
 |[]=>0
 |d::ds=>d.toNat %128+128*Ff ds
theorem Np:∀(ds es:List UInt8),Ff (ds++es)=Ff ds+128^ds.length*Ff es
 |[],es=>by simp [Ff]
 |d::ds,es=>by
  simp only [BF,Ff,Np ds es,A0,Wd];rw [Nat.mul_add,Fx];congr 2;rw [<-Nat.mul_assoc,mJ 128]
theorem eM (d:UInt8):d.toNat<256:=d.toNat_lt
theorem Jt (h:n<=127):Cy n=[UInt8.ofNat n]:=by rw [Cy,dif_pos h]
theorem Rb (h:¬n<=127):Cy n=UInt8.ofNat (n %128+128)::Cy (n/128):=by rw [Cy,dif_neg h]
theorem Zs:∀{ds:List UInt8} {x:UInt8},Ff (ds++ [x])=0->x.toNat<128->x.toNat=0
 |[],x,h,hx=>by simp [Ff]at h;omega
 |d::ds,x,h,hx=>by
  simp only [BF,Ff]at h;exact Zs (ds:=ds) (by omega) hx
theorem aG:∀(ds:List UInt8) (x:UInt8),(∀d∈ds,128<=d.toNat)->x.toNat<128->(Cy (Ff (ds++ [x]))=ds++ [x]↔¬(x.toNat=0/\ds≠ []))
 |[],x,_,hx=>by
  have:Ff ([]++ [x])=x.toNat:=by simp [Ff];omega
  rw [this,Jt (by omega)];simp
 |d::ds,x,hd,hx=>by
  have ih:=aG ds x (λe he=>hd e (Dq _ he)) hx;have h1:=hd d CI;have h2:=eM d;have hv:Ff (d::ds++ [x])=d.toNat-128+128*Ff (ds++ [x]):=by
   simp only [BF,Ff];omega
  rw [hv];by_cases h0:Ff (ds++ [x])=0
  ·have a:=Zs h0 hx;rw [h0,Jt (by omega)];refine iff_of_false ?_ (by simp [a]);intro e;have:=BR List.length e;simp at this
  rw [Rb (by omega)];have e1:UInt8.ofNat ((d.toNat-128+128*Ff (ds++ [x])) %128+128)=d:=by
   have:(d.toNat-128+128*Ff (ds++ [x])) %128+128=d.toNat:=by omega
   rw [this,UInt8.ofNat_toNat]
  have e2:(d.toNat-128+128*Ff (ds++ [x]))/128=Ff (ds++ [x]):=by omega
  rw [e1,e2,BF,PU];rw [ih];constructor
  ·rintro⟨_,h⟩ ⟨h3,_⟩;refine h ⟨h3,?_⟩;rintro rfl;apply h0;simp [Ff,h3]
  intro h;exact⟨rfl,λh3=>h ⟨h3.1,by simp⟩⟩
theorem iA:∀(n:Nat),(Cy n).length<=n+1
 |n=>by
  by_cases h:n<=127
  ·rw [Jt h];simp
  have:=iA (n/128);rw [Rb h,A0];omega
termination_by n=>n
decreasing_by omega
theorem aH {body:Int×List Int->Option ((Int×List Int)⊕(Int×List Int))} (hb:∀n a,body (n,a)=bif decide (n>127)then((ap 1 a [(IntKind.u8.wrap (ad (Int.tmod n 128) 128))]).bind λc=>some (.inl ((qu n 128),c)))else some (.inr (n,a))):
  ∀(n:Nat) (a:List Int),a.length+n<=1099511627776->∃(m:Nat) (o:List Int),Au body ((n:Int),a)=some ((m:Int),o)/\m<=127/\o.length<=a.length+n/\(o++ [(m:Int)]).map (λn=>UInt8.ofNat n.toNat)=a.map (λn=>UInt8.ofNat n.toNat)++Cy n
 |n,a,h=>by
  rw [A7,hb];by_cases hn:n<=127
  ·rw [Af (by omega),Ab];exact⟨n,a,rfl,hn,by omega,by rw [Jt hn];simp⟩
  rw [Ad (by omega),Ae,Cn (by simp only [Ak];omega),Aa];have e1:Int.tmod (n:Int) 128=((n %128:Nat):Int):=rfl;have e2:qu (n:Int) 128=((n/128:Nat):Int):=by
   unfold qu;rw [show Int.tdiv (n:Int) 128=((n/128:Nat):Int)from Int.ofNat_tdiv n 128|>.symm,NK (by omega) (by omega)]
  have e3:IntKind.u8.wrap (ad (Int.tmod (n:Int) 128) 128)=((n %128+128:Nat):Int):=by
   rw [e1,CA (by omega) (by omega),IntKind.wrap_u8];omega
  obtain⟨m,o,h1,h2,h3,h4⟩:=aH hb (n/128) (a++ [((n %128+128:Nat):Int)]) (by simp only [Ag,Ak];omega);rw [e2,e3];refine⟨m,o,h1,h2,by simp only [Ag,Ak]at h3;omega,?_⟩;rw [h4,Rb hn,Cq,Ap];rfl
termination_by n=>n
decreasing_by omega
theorem ABc {s:Int} (h0:0<=s) (h1:s<4294967296):IntKind.u32.wrap (Int.tdiv s 2)=Int.fdiv s (2^(min (1:Int).toNat IntKind.u32.bits)):=by
 have e:(2:Int)^(min (1:Int).toNat IntKind.u32.bits)=2:=by decide
 rw [e,IntKind.wrap_u32,Int.tdiv_eq_ediv_of_nonneg h0,Int.fdiv_eq_ediv_of_nonneg _ (by omega)];omega
theorem an1 {s:Int} (h0:0<=s) (h1:s<4294967296):an s 1=Int.tmod s 2:=by
 unfold an;obtain⟨n,rfl⟩:=C1 h0;have:(BitVec.ofInt 32 (n:Int)&&&BitVec.ofInt 32 1).toNat=n %2:=by
  rw [BitVec.toNat_and,BitVec.ofInt_natCast,BitVec.toNat_ofNat];have e1:(BitVec.ofInt 32 1).toNat=1:=by decide
  rw [e1,Nat.and_one_is_mod];omega
 rw [this,IntKind.wrap_u32,Kx (by omega)];omega
theorem zI (a b:Int):0<=xr a b/\xr a b<4294967296:=by
 unfold xr;rw [IntKind.wrap_u32];omega
theorem ZW {body:S->Option (S⊕β)} (a:σ->Int->S) (mkS':σ->Int->S') (n:Nat) (c:Nat->σ->Prop) (Q:β->Prop) (h1:∀s i,i<n->c i s->(∃s',body (a s (i:Nat))=some (.inl (a s' ((i+1:Nat):Int)))/\body' (mkS' s (i:Nat))=some (.inl (mkS' s' ((i+1:Nat):Int)))/\c (i+1) s')\/∃b,body (a s (i:Nat))=some (.inr b)/\body' (mkS' s (i:Nat))=some (.inr b)/\Q b) (h2:∀s,c n s->∃b,body (a s (n:Nat))=some (.inr b)/\body' (mkS' s (n:Nat))=some (.inr b)/\Q b):∀(k i:Nat) (s:σ),i+k=n->c i s->∃b,Au body (a s (i:Nat))=some b/\Au body' (mkS' s (i:Nat))=some b/\Q b
 |0,i,s,hi,hs=>by
  have:i=n:=by omega
  subst this;obtain⟨b,h3,h4,h5⟩:=h2 s hs;exact⟨b,by rw [A7,h3],by rw [A7,h4],h5⟩
 |k+1,i,s,hi,hs=>by
  rcases h1 s i (by omega) hs with⟨s',h3,h4,h5⟩|⟨b,h3,h4,h5⟩
  ·obtain⟨b,h6,h7,h8⟩:=ZW a mkS' n c Q h1 h2 k (i+1) s' (by omega) h5;exact⟨b,by rw [A7,h3];exact h6,by rw [A7,h4];exact h7,h8⟩
  exact⟨b,by rw [A7,h3],by rw [A7,h4],h5⟩
theorem QG {body:S->Option (S⊕β)} (a:σ->Int->S) (mkS':σ->Int->S') (n:Nat) (c:Nat->σ->Prop) (Q:β->Prop) (h1:∀s i,i<n->c i s->(∃s',body (a s (i:Nat))=some (.inl (a s' ((i+1:Nat):Int)))/\body' (mkS' s (i:Nat))=some (.inl (mkS' s' ((i+1:Nat):Int)))/\c (i+1) s')\/∃b,body (a s (i:Nat))=some (.inr b)/\body' (mkS' s (i:Nat))=some (.inr b)/\Q b) (h2:∀s,c n s->∃b,body (a s (n:Nat))=some (.inr b)/\body' (mkS' s (n:Nat))=some (.inr b)/\Q b) (hs:c 0 s):∃b,Au body (a s 0)=some b/\Au body' (mkS' s 0)=some b/\Q b:=
 ZW a mkS' n c Q h1 h2 n 0 s (by omega) hs
theorem UG {body:S->Option (S⊕β)} (φ:S->S') (h:∀s,body' (φ s)=(body s).map (Sum.map φ id)):∀(n:Nat) (s:S),Pa body' n (φ s)=Pa body n s
 |0,_=>rfl
 |n+1,s=>by
  simp only [Pa,h]
  cases body s with
  |none=>rfl
  |some o=>
   cases o with
   |inl s'=>exact UG φ h n s'
   |inr b=>rfl
theorem kS {body:S->Option (S⊕β)} (φ:S->S') (h:∀s,body' (φ s)=(body s).map (Sum.map φ id)) (s:S):Au body' (φ s)=Au body s:=by
 have b:∀a,Au body' (φ s)=some a↔Au body s=some a:=λa=>by
  rw [H7,H7];exact⟨λ⟨n,hn⟩=>⟨n,by rw [<-UG φ h];exact hn⟩,λ⟨n,hn⟩=>⟨n,by rw [UG φ h];exact hn⟩⟩
 cases hx:Au body s with
 |some a=>exact(b a).2 hx
 |none=>
  cases hy:Au body' (φ s)with
  |none=>rfl
  |some a=>rw [(b a).1 hy]at hx;cases hx
theorem S1 {body:S->Option (S⊕β)} (φ:S->S') (I:S->Prop) (h:∀s,I s->body' (φ s)=(body s).map (Sum.map φ id)) (hI:∀s s',I s->body s=some (.inl s')->I s'):∀(n:Nat) (s:S),I s->Pa body' n (φ s)=Pa body n s
 |0,_,_=>rfl
 |n+1,s,hs=>by
  simp only [Pa,h s hs]
  cases hb:body s with
  |none=>rfl
  |some o=>
   cases o with
   |inl s'=>exact S1 φ I h hI n s' (hI s s' hs hb)
   |inr b=>rfl
theorem gE {body:S->Option (S⊕β)} (φ:S->S') (I:S->Prop) (h:∀s,I s->body' (φ s)=(body s).map (Sum.map φ id)) (hI:∀s s',I s->body s=some (.inl s')->I s') (s:S) (hs:I s):Au body' (φ s)=Au body s:=by
 have b:∀a,Au body' (φ s)=some a↔Au body s=some a:=λa=>by
  rw [H7,H7];exact⟨λ⟨n,hn⟩=>⟨n,by rw [<-S1 φ I h hI n s hs];exact hn⟩,λ⟨n,hn⟩=>⟨n,by rw [S1 φ I h hI n s hs];exact hn⟩⟩
 cases hx:Au body s with
 |some a=>exact(b a).2 hx
 |none=>
  cases hy:Au body' (φ s)with
  |none=>rfl
  |some a=>rw [(b a).1 hy]at hx;cases hx
theorem pT {s:S} {b:β} {body:S->Option (S⊕β)} (I:S->Prop) (Q:β->Prop) (hI:∀s s',I s->body s=some (.inl s')->I s') (hQ:∀s b,I s->body s=some (.inr b)->Q b) (hs:I s) (h:Au body s=some b):Q b:=by
 obtain⟨n,hn⟩:=H7.1 h;clear h
 induction n generalizing s with
 |zero=>cases hn
 |succ n ih=>
  simp only [Pa]at hn;split at hn
  ·cases hn
  ·rename_i s' hb;exact ih (hI s s' hs hb) hn
  rename_i b' hb
  injection hn with hn
  subst hn;exact hQ s b' hs hb
theorem X9 {body':S'->Option (S'⊕β')} {body:S->Option (S⊕β)} (a:σ->Int->S) (mkS':σ->Int->S') (n:Nat) (c:Nat->σ->Prop) (Q:β->β'->Prop) (h1:∀s i,i<n->c i s->(∃s',body (a s (i:Nat))=some (.inl (a s' ((i+1:Nat):Int)))/\body' (mkS' s (i:Nat))=some (.inl (mkS' s' ((i+1:Nat):Int)))/\c (i+1) s')\/∃b b',body (a s (i:Nat))=some (.inr b)/\body' (mkS' s (i:Nat))=some (.inr b')/\Q b b') (h2:∀s,c n s->∃b b',body (a s (n:Nat))=some (.inr b)/\body' (mkS' s (n:Nat))=some (.inr b')/\Q b b'):∀(k i:Nat) (s:σ),i+k=n->c i s->∃b b',Au body (a s (i:Nat))=some b/\Au body' (mkS' s (i:Nat))=some b'/\Q b b'
 |0,i,s,hi,hs=>by
  have:i=n:=by omega
  subst this;obtain⟨b,b',h3,h4,h5⟩:=h2 s hs;exact⟨b,b',by rw [A7,h3],by rw [A7,h4],h5⟩
 |k+1,i,s,hi,hs=>by
  rcases h1 s i (by omega) hs with⟨s',h3,h4,h5⟩|⟨b,b',h3,h4,h5⟩
  ·obtain⟨b,b',h6,h7,h8⟩:=X9 a mkS' n c Q h1 h2 k (i+1) s' (by omega) h5;exact⟨b,b',by rw [A7,h3];exact h6,by rw [A7,h4];exact h7,h8⟩
  exact⟨b,b',by rw [A7,h3],by rw [A7,h4],h5⟩
theorem pS {body':S'->Option (S'⊕β')} {body:S->Option (S⊕β)} (a:σ->Int->S) (mkS':σ->Int->S') (n:Nat) (c:Nat->σ->Prop) (Q:β->β'->Prop) (h1:∀s i,i<n->c i s->(∃s',body (a s (i:Nat))=some (.inl (a s' ((i+1:Nat):Int)))/\body' (mkS' s (i:Nat))=some (.inl (mkS' s' ((i+1:Nat):Int)))/\c (i+1) s')\/∃b b',body (a s (i:Nat))=some (.inr b)/\body' (mkS' s (i:Nat))=some (.inr b')/\Q b b') (h2:∀s,c n s->∃b b',body (a s (n:Nat))=some (.inr b)/\body' (mkS' s (n:Nat))=some (.inr b')/\Q b b') (hs:c 0 s):∃b b',Au body (a s 0)=some b/\Au body' (mkS' s 0)=some b'/\Q b b':=
 X9 a mkS' n c Q h1 h2 n 0 s (by omega) hs
theorem R4 {body body':S->Option (S⊕β)} (m:S->Nat) (a:S->Prop) (Q:β->Prop) (h:∀s,a s->(∃s',body s=some (.inl s')/\body' s=some (.inl s')/\a s'/\m s'<m s)\/∃b,body s=some (.inr b)/\body' s=some (.inr b)/\Q b):∀(n:Nat) (s:S),m s<=n->a s->∃b,Au body s=some b/\Au body' s=some b/\Q b
 |n,s,hn,hs=>by
  rcases h s hs with⟨s',h1,h2,h3,h4⟩|⟨b,h1,h2,h3⟩
  ·cases n with
   |zero=>omega
   |succ n=>
    obtain⟨b,h5,h6,h7⟩:=R4 m a Q h n s' (by omega) h3;exact⟨b,by rw [A7,h1];exact h5,by rw [A7,h2];exact h6,h7⟩
  exact⟨b,by rw [A7,h1],by rw [A7,h2],h3⟩
theorem Qf (z:α->Nat):∀(l:List α) (i:Nat) (h:i<l.length),((l.take (i+1)).map z).sum=((l.take i).map z).sum+z l[i]
 |[],i,h=>by simp at h
 |x::l,0,h=>by simp
 |x::l,i+1,h=>by
  simp only [LC,Cb,O9,List.getElem_cons_succ];rw [Qf z l i (by simpa using h)];omega
theorem Nq (z:α->Nat) (l:List α) (i:Nat):((l.take i).map z).sum<=(l.map z).sum:=by
 have:(l.map z).sum=((l.take i).map z).sum+((l.drop i).map z).sum:=by
  rw [<-List.sum_append,<-Cq,Bt]
 omega
theorem dM (a:List α) (x:α) (post:List α):gi (a++x::post) (a.length:Nat)=some x:=by
 rw [A9,AU (A4 _)];simp
theorem bH (a:List α) (x y:α) (post:List α):si (a++x::post) (a.length:Nat) y=a++y::post:=by
 rw [Ep,List.set_append_right _ _ (A4 _)];simp
noncomputable section
def Ea (lt:γ->γ->Bool) (xA:Int) (xB:Int) (xN:Int) (a:Int) (b:List γ):Option ((Int×List γ)⊕(List γ)):=
 bif(decide (a<xN))then((jH b (ad xA a) (ad xB a)).bind λv1=>
 some (.inl ((ad a 1),v1)))
 else(some (.inr b))
def Di (lt:γ->γ->Bool) (xL:List γ) (xA:Int) (xB:Int) (xN:Int):Option (List γ):=
 (Au (λs:Int×List γ=>Ea lt xA xB xN s.1 s.2) (0,xL)).bind λv2=>
 some v2
def EP (lt:γ->γ->Bool) (xM:Int) (a:Int) (b:Int) (c:List γ):Option ((Int×Int×List γ)⊕(Int×List γ)):=
 bif(a !=b)then(bif(decide (a>b))then((Di lt c (sb xM a) xM b).bind λv1=>
 some (.inl ((sb a b),b,v1)))
 else((Di lt c (sb xM a) (sb (ad xM b) a) a).bind λv2=>
 some (.inl (a,(sb b a),v2))))
 else(some (.inr (a,c)))
def Fi (lt:γ->γ->Bool) (xL:List γ) (xA:Int) (xM:Int) (xB:Int):Option (List γ):=
 (Au (λs:Int×Int×List γ=>EP lt xM s.1 s.2.1 s.2.2) ((sb xM xA),(sb xB xM),xL)).bind λv3=>
 (Di lt v3.2 (sb xM v3.1) xM v3.1).bind λv4=>
 some v4
def Bs (lt:γ->γ->Bool) (xA:Int) (a:Int) (b:List γ):Option ((Int×List γ)⊕(List γ)):=
 (bif(decide (a>xA))then((qZ b a (sb a 1)).bind λv1=>
 some (lt v1.1 v1.2))
 else(some false):Option (Bool)).bind λj1=>
 bif j1 then((jH b a (sb a 1)).bind λv2=>
 some (.inl ((sb a 1),v2)))
 else(some (.inr b))
def Bx (lt:γ->γ->Bool) (xA:Int) (xB:Int) (a:Int) (b:List γ):Option ((Int×List γ)⊕(List γ)):=
 bif(decide (a<xB))then((Au (λs:Int×List γ=>Bs lt xA s.1 s.2) (a,b)).bind λv3=>
 some (.inl ((ad a 1),v3)))
 else(some (.inr b))
def BS (lt:γ->γ->Bool) (xL:List γ) (xA:Int) (xB:Int):Option (List γ):=
 (Au (λs:Int×List γ=>Bx lt xA xB s.1 s.2) ((ad xA 1),xL)).bind λv4=>
 some v4
def Ev (lt:γ->γ->Bool) (xL:List γ) (xA:Int) (a:Int) (b:Int):Option ((Int×Int)⊕(Int)):=
 bif(decide (a<b))then((qZ xL (IntKind.i64.wrap (Int.fdiv (IntKind.u64.wrap (ad a b)) (2^(min (1:Int).toNat IntKind.u64.bits)))) xA).bind λv1=>
 bif(lt v1.1 v1.2)then(some (.inl ((ad (IntKind.i64.wrap (Int.fdiv (IntKind.u64.wrap (ad a b)) (2^(min (1:Int).toNat IntKind.u64.bits)))) 1),b)))
 else(some (.inl (a,(IntKind.i64.wrap (Int.fdiv (IntKind.u64.wrap (ad a b)) (2^(min (1:Int).toNat IntKind.u64.bits))))))))
 else(some (.inr a))
def DJ (lt:γ->γ->Bool) (v2:Int) (a:Int) (b:List γ):Option ((Int×List γ)⊕(List γ)):=
 bif(decide (a<(sb v2 1)))then((jH b a (ad a 1)).bind λv3=>
 some (.inl ((ad a 1),v3)))
 else(some (.inr b))
def Eu (lt:γ->γ->Bool) (xL:List γ) (xM:Int) (a:Int) (b:Int):Option ((Int×Int)⊕(Int)):=
 bif(decide (a<b))then((qZ xL xM (IntKind.i64.wrap (Int.fdiv (IntKind.u64.wrap (ad a b)) (2^(min (1:Int).toNat IntKind.u64.bits))))).bind λv5=>
 bif(!(lt v5.1 v5.2))then(some (.inl ((ad (IntKind.i64.wrap (Int.fdiv (IntKind.u64.wrap (ad a b)) (2^(min (1:Int).toNat IntKind.u64.bits)))) 1),b)))
 else(some (.inl (a,(IntKind.i64.wrap (Int.fdiv (IntKind.u64.wrap (ad a b)) (2^(min (1:Int).toNat IntKind.u64.bits))))))))
 else(some (.inr a))
def DI (lt:γ->γ->Bool) (v6:Int) (a:Int) (b:List γ):Option ((Int×List γ)⊕(List γ)):=
 bif(decide (a>v6))then((jH b a (sb a 1)).bind λv7=>
 some (.inl ((sb a 1),v7)))
 else(some (.inr b))
def Et (lt:γ->γ->Bool) (xL:List γ) (xA:Int) (xM:Int) (xB:Int) (a:Int) (b:Int):Option ((Int×Int)⊕(Int)):=
 bif(decide (a<b))then((qZ xL (sb (sb (ad (IntKind.i64.wrap (Int.fdiv (IntKind.u64.wrap (ad xA xB)) (2^(min (1:Int).toNat IntKind.u64.bits)))) xM) 1) (IntKind.i64.wrap (Int.fdiv (IntKind.u64.wrap (ad a b)) (2^(min (1:Int).toNat IntKind.u64.bits))))) (IntKind.i64.wrap (Int.fdiv (IntKind.u64.wrap (ad a b)) (2^(min (1:Int).toNat IntKind.u64.bits))))).bind λv9=>
 bif(!(lt v9.1 v9.2))then(some (.inl ((ad (IntKind.i64.wrap (Int.fdiv (IntKind.u64.wrap (ad a b)) (2^(min (1:Int).toNat IntKind.u64.bits)))) 1),b)))
 else(some (.inl (a,(IntKind.i64.wrap (Int.fdiv (IntKind.u64.wrap (ad a b)) (2^(min (1:Int).toNat IntKind.u64.bits))))))))
 else(some (.inr a))
def CK (lt:γ->γ->Bool):Nat->(List γ)->Int->Int->Int->Option (List γ)
 |0,_,_,_,_=>none
 |n+1,xL,xA,xM,xB=>
 bif((sb xM xA)==1)then((Au (λs:Int×Int=>Ev lt xL xA s.1 s.2) (xM,xB)).bind λv2=>
 (Au (λs:Int×List γ=>DJ lt v2 s.1 s.2) (xA,xL)).bind λv4=>
 some v4)
 else(bif((sb xB xM)==1)then((Au (λs:Int×Int=>Eu lt xL xM s.1 s.2) (xA,xM)).bind λv6=>
 (Au (λs:Int×List γ=>DI lt v6 s.1 s.2) (xM,xL)).bind λv8=>
 some v8)
 else((bif(decide (xM>(IntKind.i64.wrap (Int.fdiv (IntKind.u64.wrap (ad xA xB)) (2^(min (1:Int).toNat IntKind.u64.bits))))))then(some ((sb (ad (IntKind.i64.wrap (Int.fdiv (IntKind.u64.wrap (ad xA xB)) (2^(min (1:Int).toNat IntKind.u64.bits)))) xM) xB),(IntKind.i64.wrap (Int.fdiv (IntKind.u64.wrap (ad xA xB)) (2^(min (1:Int).toNat IntKind.u64.bits))))))
 else(some (xA,xM)):Option (Int×Int)).bind λj1=>
 (Au (λs:Int×Int=>Et lt xL xA xM xB s.1 s.2) (j1.1,j1.2)).bind λv10=>
 (bif(decide (v10<xM))then(some (decide (xM<(sb (ad (IntKind.i64.wrap (Int.fdiv (IntKind.u64.wrap (ad xA xB)) (2^(min (1:Int).toNat IntKind.u64.bits)))) xM) v10))))
 else(some false):Option (Bool)).bind λj2=>
 (bif j2 then((Fi lt xL v10 xM (sb (ad (IntKind.i64.wrap (Int.fdiv (IntKind.u64.wrap (ad xA xB)) (2^(min (1:Int).toNat IntKind.u64.bits)))) xM) v10)).bind λv11=>
 some v11)
 else(some xL):Option (List γ)).bind λj3=>
 (bif(decide (xA<v10))then(some (decide (v10<(IntKind.i64.wrap (Int.fdiv (IntKind.u64.wrap (ad xA xB)) (2^(min (1:Int).toNat IntKind.u64.bits)))))))
 else(some false):Option (Bool)).bind λj4=>
 (bif j4 then((CK lt n j3 xA v10 (IntKind.i64.wrap (Int.fdiv (IntKind.u64.wrap (ad xA xB)) (2^(min (1:Int).toNat IntKind.u64.bits))))).bind λv12=>
 some v12)
 else(some j3):Option (List γ)).bind λj5=>
 bif(decide ((IntKind.i64.wrap (Int.fdiv (IntKind.u64.wrap (ad xA xB)) (2^(min (1:Int).toNat IntKind.u64.bits))))<(sb (ad (IntKind.i64.wrap (Int.fdiv (IntKind.u64.wrap (ad xA xB)) (2^(min (1:Int).toNat IntKind.u64.bits)))) xM) v10)))then(bif(decide ((sb (ad (IntKind.i64.wrap (Int.fdiv (IntKind.u64.wrap (ad xA xB)) (2^(min (1:Int).toNat IntKind.u64.bits)))) xM) v10)<xB))then((CK lt n j5 (IntKind.i64.wrap (Int.fdiv (IntKind.u64.wrap (ad xA xB)) (2^(min (1:Int).toNat IntKind.u64.bits)))) (sb (ad (IntKind.i64.wrap (Int.fdiv (IntKind.u64.wrap (ad xA xB)) (2^(min (1:Int).toNat IntKind.u64.bits)))) xM) v10) xB).bind λv13=>
 some v13)
 else(some j5))
 else(some j5)))
def Dj (lt:γ->γ->Bool) (xN:Int) (b:Int) (a:Int) (c:List γ):Option ((Int×Int×List γ)⊕(Int×List γ)):=
 bif(decide (a<=xN))then((BS lt c b a).bind λv1=>
 some (.inl (a,(ad a 20),v1)))
 else(some (.inr (b,c)))
def DD (lt:γ->γ->Bool) (xN:Int) (a:Int) (c:Int) (b:Int) (d:List γ):Option ((Int×Int×List γ)⊕(Int×List γ)):=
 bif(decide (b<=xN))then((CK lt (List.length d+1) d c (ad c a) b).bind λv4=>
 some (.inl (b,(ad b (ml 2 a)),v4)))
 else(some (.inr (c,d)))
def DE (lt:γ->γ->Bool) (xN:Int) (a:Int) (b:List γ):Option ((Int×List γ)⊕(List γ)):=
 bif(decide (a<xN))then((Au (λs:Int×Int×List γ=>DD lt xN a s.1 s.2.1 s.2.2) (0,(ml 2 a),b)).bind λv5=>
 bif(decide ((ad v5.1 a)<xN))then((CK lt (List.length v5.2+1) v5.2 v5.1 (ad v5.1 a) xN).bind λv6=>
 some (.inl ((ml a 2),v6)))
 else(some (.inl ((ml a 2),v5.2))))
 else(some (.inr b))
def D1 (lt:γ->γ->Bool) (xL:List γ) (xN:Int):Option (List γ):=
 (Au (λs:Int×Int×List γ=>Dj lt xN s.1 s.2.1 s.2.2) (0,20,xL)).bind λv2=>
 (BS lt v2.2 v2.1 xN).bind λv3=>
 (Au (λs:Int×List γ=>DE lt xN s.1 s.2) (20,v3)).bind λv7=>
 some v7
def X8 (xX:Int):Option (Int):=
 (bif(decide (xX>=4294967296))then(some ((Int.fdiv xX (2^(min (32:Int).toNat IntKind.u64.bits))),32))
 else(some (xX,0)):Option (Int×Int)).bind λj1=>
 (bif(decide (j1.1>=65536))then(some ((Int.fdiv j1.1 (2^(min (16:Int).toNat IntKind.u64.bits))),(ad j1.2 16)))
 else(some (j1.1,j1.2)):Option (Int×Int)).bind λj2=>
 (bif(decide (j2.1>=256))then(some ((Int.fdiv j2.1 (2^(min (8:Int).toNat IntKind.u64.bits))),(ad j2.2 8)))
 else(some (j2.1,j2.2)):Option (Int×Int)).bind λj3=>
 (sx (bs [0,1,2,2,3,3,3,3,4,4,4,4,4,4,4,4,5,5,5,5,5,5,5,5,5,5,5,5,5,5,5,5,6,6,6,6,6,6,6,6,6,6,6,6,6,6,6,6,6,6,6,6,6,6,6,6,6,6,6,6,6,6,6,6,7,7,7,7,7,7,7,7,7,7,7,7,7,7,7,7,7,7,7,7,7,7,7,7,7,7,7,7,7,7,7,7,7,7,7,7,7,7,7,7,7,7,7,7,7,7,7,7,7,7,7,7,7,7,7,7,7,7,7,7,7,7,7,7,8,8,8,8,8,8,8,8,8,8,8,8,8,8,8,8,8,8,8,8,8,8,8,8,8,8,8,8,8,8,8,8,8,8,8,8,8,8,8,8,8,8,8,8,8,8,8,8,8,8,8,8,8,8,8,8,8,8,8,8,8,8,8,8,8,8,8,8,8,8,8,8,8,8,8,8,8,8,8,8,8,8,8,8,8,8,8,8,8,8,8,8,8,8,8,8,8,8,8,8,8,8,8,8,8,8,8,8,8,8,8,8,8,8,8,8,8,8,8,8,8,8,8,8,8,8,8,8]) (IntKind.u8.wrap j3.1)).bind λx1=>
 some (ad j3.2 (IntKind.i64.wrap x1))
def UO (xX:Int):Option (Int):=
 (X8 xX).bind λv1=>
 some v1
def FW (lt:γ->γ->Bool) (xL:List γ) (xA:Int) (xB:Int):Option ((Unit)⊕((Unit)⊕((List γ)))):=
 bif(decide ((sb xB xA)<=12))then((BS lt xL xA xB).bind λv1=>
 some (.inr (.inr v1)))
 else(none)
def EK (lt:γ->γ->Bool) (xL:List γ) (xA:Int) (xB:Int) (a:Int):Option (List γ):=
 (Au (λ_:Unit=>FW lt xL xA xB) ()).bind (Sum.elim (λv2=>(some xL)) some)
def OI (lt:γ->γ->Bool) (l:List γ):Option (List γ):=(UO (IntKind.u64.wrap (ln l))).bind λv=>EK lt l 0 (ln l) v
end
def Sf (a:γ->Int) (l:List γ):Prop:=l.Pairwise λx y=>a x<=a y
section
variable (key:γ->Int)
def Cg (l r:List γ):Prop:=∀k,r.filter (λx=>key x==k)=l.filter (λx=>key x==k)
end
theorem Cg.refl (a:γ->Int) (l:List γ):Cg a l l:=λ_=>rfl
theorem Cg.trans (d:γ->Int) {c:List γ} (h:Cg d a b) (k:Cg d b c):Cg d a c:=λx=>(k x).trans (h x)
theorem G5 (e:γ->Int) {c d:List γ} (h:Cg e a b) (k:Cg e c d):Cg e (a++c) (b++d):=λx=>by rw [AS,AS,h,k]
section
variable (key:γ->Int)
theorem Cg.mem {x:γ} (h:Cg key a b):x∈b↔x∈a:=by
 have:=h (key x);have e:x∈b.filter (λy=>key y==key x)↔x∈a.filter (λy=>key y==key x):=by rw [this]
 simpa using e
end
section
variable (key:γ->Int)
theorem Cg.nil (h:Cg key [] b):b=[]:=by
 cases b with
 |nil=>rfl
 |cons x b=>exact absurd ((h.mem (x:=x)).1 CI) (by simp)
end
section
variable (key:γ->Int)
theorem Cg.swap (h:∀x∈a,∀y∈b,key y<key x):Cg key (a++b) (b++a):=by
 intro k;rw [AS,AS];by_cases ha:a.filter (λx=>key x==k)=[]
 ·rw [ha];simp
 have hb:b.filter (λx=>key x==k)=[]:=by
  rw [B8];intro y hy e;obtain⟨x,hx⟩:=List.exists_mem_of_ne_nil _ ha;obtain⟨c,d⟩:=AT.1 hx;have:=h x c y hy;simp at e d;omega
 rw [hb];simp
end
theorem SB (p:γ->Bool):∀l:List γ,l.length=(l.filter p).length+(l.filter λx=>!p x).length
 |[]=>rfl
 |x::l=>by
  have:=SB p l;cases h:p x<;>simp [h]<;>omega
section
variable (key:γ->Int)
theorem Cg.len:Cg key a b->a.length=b.length:=by
 intro h;have:∀(n:Nat) (a b:List γ),a.length<=n->Cg key a b->a.length=b.length:=by
  intro n
  induction n with
  |zero=>
   intro a b ha h;have:a=[]:=AB (by omega);subst this;rw [h.nil]
  |succ n ih=>
   intro a b ha h
   cases a with
   |nil=>rw [h.nil]
   |cons x a=>
    have hp:(x::a).length=((x::a).filter (λy=>key y==key x)).length+((x::a).filter (λy=>!(key y==key x))).length:=by
     exact SB _ _
    have c:b.length=(b.filter (λy=>key y==key x)).length+(b.filter (λy=>!(key y==key x))).length:=by
     exact SB _ _
    have h1:Cg key ((x::a).filter (λy=>!(key y==key x))) (b.filter (λy=>!(key y==key x))):=by
     intro k;rw [Ew,Ew];by_cases hk:k=key x
     ·subst hk
      have z:∀l:List γ,l.filter (λy=>(key y==key x)&&!(key y==key x))=[]:=λl=>by
       rw [B8];intro y _;cases key y==key x<;>simp
      rw [z,z]
     have z:∀l:List γ,l.filter (λy=>(key y==k)&&!(key y==key x))=l.filter (λy=>key y==k):=λl=>by
      apply List.filter_congr;intro y _;by_cases e:key y=k
      ·have:(key y==key x)=false:=by simp [e,hk]
       simp [this]
      have:(key y==k)=false:=by simpa using e
      simp [this]
     rw [z,z];exact h k
    have h2:=ih _ _ (by
     have:0<((x::a).filter (λy=>key y==key x)).length:=by simp
     omega) h1
    rw [hp,c,h2,h (key x)]
 exact this a.length a b (A4 _) h
end
section
variable (key:γ->Int)
theorem OH:∀{a b:List γ},Sf key a->Sf key b->Cg key a b->a=b
 |[],b,_,_,h=>(h.nil key).symm
 |x::a,[],_,_,h=>by
  have:=h.len key;simp at this
 |x::a,y::b,ha,hb,h=>by
  have c:key x=key y:=by
   have h1:x∈y::b:=(h.mem key).2 CI;have h2:y∈x::a:=(h.mem key).1 CI;have k1:key y<=key x:=by
    rcases BA.1 h1 with rfl|h1
    ·exact F7 _
    exact(Db.1 hb).1 x h1
   have k2:key x<=key y:=by
    rcases BA.1 h2 with rfl|h2
    ·exact F7 _
    exact(Db.1 ha).1 y h2
   omega
  have e:=h (key x);rw [Cc (by simp [c]),Cc (by simp)]at e
  injection e with e1 e2
  subst e1;have h':Cg key a b:=by
   intro k;have:=h k;by_cases hk:key y=k
   ·subst hk;exact e2
   rw [Cj (by simpa using hk),Cj (by simpa using hk)]at this;exact this
  rw [OH (Db.1 ha).2 (Db.1 hb).2 h']
end
theorem QW (P S:List γ) (x:γ):gi (P++x::S) (P.length:Nat)=some x:=by
 rw [A9,AU (A4 _)];simp
theorem bI (P S:List γ) (x y:γ):si (P++x::S) (P.length:Nat) y=P++y::S:=by
 rw [Ep];simp
theorem mX (P M S:List γ) (x y:γ):jH (P++x::(M++y::S)) (P.length:Nat) ((P.length+1+M.length:Nat):Int)=some (P++y::(M++x::S)):=by
 unfold jH;have e:P++x::(M++y::S)=(P++x::M)++y::S:=by simp
 have e2:P++y::(M++y::S)=(P++y::M)++y::S:=by simp
 have hl:(P.length+1+M.length)=(P++x::M).length:=by simp;omega
 have a:(P.length+1+M.length)=(P++y::M).length:=by simp;omega
 rw [QW,Aa];have h2:gi (P++x::(M++y::S)) ((P.length+1+M.length:Nat):Int)=some y:=by rw [e,hl,QW]
 rw [h2,Aa,bI,e2,a,bI];simp
theorem mY (P S:List γ) (x y:γ):jH (P++x::y::S) ((P.length+1:Nat):Int) (P.length:Nat)=some (P++y::x::S):=by
 unfold jH;have e:P++x::y::S=(P++ [x])++y::S:=by simp
 have e2:P++x::x::S=P++x::(x::S):=rfl;have hl:(P.length+1)=(P++ [x]).length:=by simp
 have h1:gi (P++x::y::S) ((P.length+1:Nat):Int)=some y:=by rw [e,hl,QW]
 rw [h1,Aa,QW,Aa];have h3:si (P++x::y::S) ((P.length+1:Nat):Int) x=P++x::x::S:=by rw [e,hl,bI];simp
 rw [h3,bI]
theorem rI (P S:List γ) (x y:γ):jH (P++x::y::S) (P.length:Nat) ((P.length+1:Nat):Int)=some (P++y::x::S):=by
 have:=mX P [] S x y;simpa using this
theorem OF:∀(X Y P M S:List γ),X.length=Y.length->P.length+X.length+M.length+Y.length+S.length<=1152921504606846976->
  Di lt (P++X++M++Y++S) (P.length:Nat) ((P.length+X.length+M.length:Nat):Int) (X.length:Nat)=some (P++Y++M++X++S):=by
 have d:∀(n:Nat) (X Y P M S:List γ) (a b c i:Nat),X.length=n->Y.length=n->a+i=P.length->b+i=P.length+n+M.length->c=i+n->P.length+n+M.length+n+S.length<=1152921504606846976->
   Au (λs:Int×List γ=>Ea lt (a:Int) (b:Int) (c:Int) s.1 s.2) ((i:Int),P++X++M++Y++S)=some (P++Y++M++X++S):=by
  intro n
  induction n with
  |zero=>
   intro X Y P M S a b c i hX hY h1 h2 h3 hN;have:=AB hX;subst this;have:=AB hY;subst this;rw [A7];simp only [Ea];rw [Af (by omega:¬(i:Int)<c),Ab]
  |succ n ih=>
   intro X Y P M S a b c i hX hY h1 h2 h3 hN
   cases X with
   |nil=>simp at hX
   |cons x X=>
   cases Y with
   |nil=>simp at hY
   |cons y Y=>
   simp only [A0]at hX hY;have hs:jH (P++(x::X)++M++(y::Y)++S) (ad (a:Int) (i:Int)) (ad (b:Int) (i:Int))=some (P++(y::X)++M++(x::Y)++S):=by
    have e1:ad (a:Int) (i:Int)=(P.length:Nat):=by rw [CA (by omega) (by omega)];omega
    have e2:ad (b:Int) (i:Int)=((P.length+1+(X++M).length:Nat):Int):=by rw [CA (by omega) (by omega)];simp only [Ag];omega
    have:=mX P (X++M) (Y++S) x y;rw [e1,e2];simpa using this
   rw [A7];simp only [Ea];rw [Ad (by omega:(i:Int)<c),Ae,hs,Aa,ad1 (by omega)];have:=ih X Y (P++ [y]) (M++ [x]) S a b c (i+1) (by omega) (by omega) (by simp;omega) (by simp;omega) (by omega) (by simp;omega);simp only [Ap,BF,A6,Cm]at this⊢;exact this
 intro X Y P M S e hN;unfold Di;have:=d X.length X Y P M S P.length (P.length+X.length+M.length) X.length 0 rfl e.symm (by omega) (by omega) (by omega) (by omega);rw [show((0:Nat):Int)=0 from rfl]at this;rw [this];rfl
theorem pB (P A B S:List γ) (hA:A≠ []) (hB:B≠ []) (hN:P.length+A.length+B.length+S.length<=1152921504606846976):
  Fi lt (P++A++B++S) (P.length:Nat) ((P.length+A.length:Nat):Int) ((P.length+A.length+B.length:Nat):Int)=some (P++B++A++S):=by
 have g:∀(m:Nat) (Bd:Int×Int×List γ->Option ((Int×Int×List γ)⊕(Int×List γ))) (d:∀i j l,Bd (i,j,l)=EP lt (m:Int) i j l) (k:Nat) (P U V S:List γ),U.length+V.length<=k->U≠ []->V≠ []->P.length+U.length=m->P.length+U.length+V.length+S.length<=1152921504606846976->
   ((
    Au Bd ((U.length:Int),(V.length:Int),P++U++V++S)).bind λv3=>
    (Di lt v3.2 (sb (m:Int) v3.1) (m:Int) v3.1).bind λv4=>some v4)=some (P++V++U++S):=by
  intro m Bd d k
  induction k with
  |zero=>
   intro P U V S hk hU;exact absurd (AB (by omega)) hU
  |succ k ih=>
   intro P U V S hk hU hV hm hN;have lU:=Iz.2 hU;have lV:=Iz.2 hV;rw [A7];simp only [d,EP];have c:sb (m:Int) (U.length:Int)=(P.length:Nat):=by rw [Cw (by omega) (by omega)];omega
   by_cases f:U.length=V.length
   ·have e:((U.length:Int) !=(V.length:Int))=false:=by simp [f]
    rw [e,Ab];simp only [Aa];rw [c];have:=OF (lt:=lt) U V P [] S f (by simp;omega);simp only [Az,Bn,Gy]at this;rw [hm]at this;rw [this];rfl
   have e:((U.length:Int) !=(V.length:Int))=true:=by simp;omega
   rw [e,Ae];by_cases n:U.length>V.length
   ·rw [Ad (by omega:(U.length:Int)>V.length),Ae,c];have h:U=U.take V.length++U.drop V.length:=(Bt _ _).symm;have a:(U.take V.length).length=V.length:=by simp;omega
    have b:(U.drop V.length).length=U.length-V.length:=by simp
    have:=OF (lt:=lt) (U.take V.length) V P (U.drop V.length) S a (by rw [a,b];omega);rw [a,b,show P.length+V.length+(U.length-V.length)=m by omega]at this;have e3:P++U++V++S=P++U.take V.length++U.drop V.length++V++S:=by
     have:P++U++V++S=P++(U.take V.length++U.drop V.length)++V++S:=by rw [Bt]
     rw [this];simp only [Ap]
    rw [e3,this,Aa];have e4:sb (U.length:Int) (V.length:Int)=((U.drop V.length).length:Int):=by rw [Cw (by omega) (by omega),b];omega
    have:=ih (P++V) (U.drop V.length) (U.take V.length) S (by rw [a,b];omega) (by intro e;rw [e]at b;simp at b;omega) (by intro e;rw [e]at a;simp at a;omega) (by simp only [Ag];omega) (by simp only [Ag,a,b];omega);rw [a]at this;rw [e4];simp only [Ap]at this⊢;rw [this];rw [show U.take V.length++(U.drop V.length++S)=U++S by rw [<-Ap,Bt]]
   rw [Af (by omega:¬(U.length:Int)>V.length),Ab,c];have a:(V.take (V.length-U.length)).length=V.length-U.length:=by simp
   have b:(V.drop (V.length-U.length)).length=U.length:=by simp;omega
   have:=OF (lt:=lt) U (V.drop (V.length-U.length)) P (V.take (V.length-U.length)) S b.symm (by rw [a,b];omega);rw [a]at this;have e2:sb (ad (m:Int) (V.length:Int)) (U.length:Int)=((P.length+U.length+(V.length-U.length):Nat):Int):=by rw [CA (by omega) (by omega),Cw (by omega) (by omega)];omega
   have e3:P++U++V++S=P++U++V.take (V.length-U.length)++V.drop (V.length-U.length)++S:=by
    have:P++U++V++S=P++U++(V.take (V.length-U.length)++V.drop (V.length-U.length))++S:=by rw [Bt]
    rw [this];simp only [Ap]
   rw [e2,e3,this,Aa];have e4:sb (V.length:Int) (U.length:Int)=((V.take (V.length-U.length)).length:Int):=by rw [Cw (by omega) (by omega),a];omega
   have:=ih P (V.drop (V.length-U.length)) (V.take (V.length-U.length)) (U++S) (by rw [a,b];omega) (by intro e;rw [e]at b;simp at b;omega) (by intro e;rw [e]at a;simp at a;omega) (by rw [b];omega) (by simp only [Ag,a,b];omega);rw [b]at this;rw [e4];simp only [Ap]at this⊢;rw [this];rw [show V.take (V.length-U.length)++(V.drop (V.length-U.length)++(U++S))=V++(U++S) by rw [<-Ap,Bt]]
 have h1:sb ((P.length+A.length:Nat):Int) (P.length:Nat)=(A.length:Int):=by rw [Cw (by omega) (by omega)];omega
 have h2:sb ((P.length+A.length+B.length:Nat):Int) ((P.length+A.length:Nat):Int)=(B.length:Int):=by rw [Cw (by omega) (by omega)];omega
 unfold Fi;rw [h1,h2];exact g (P.length+A.length) (λs=>EP lt ((P.length+A.length:Nat):Int) s.1 s.2.1 s.2.2) (λ_ _ _=>rfl) _ P A B S (A4 _) hA hB rfl hN
def Nj (a:γ->Int) (x y:γ):Bool:=decide (a x<a y)
theorem p9 (a:γ->Int) (P S:List γ) (y:γ) (B:Int×List γ->Option ((Int×List γ)⊕(List γ))) (hB:∀j l,B (j,l)=Bs (Nj a) (P.length:Nat) j l):∀(n:Nat) (U V:List γ),U.length=n->Sf a U->P.length+U.length+V.length+S.length<=1152921504606846976->
  ∃U1 U2,U=U1++U2/\Au B (((P.length+U.length:Nat):Int),P++U++y::(V++S))=some (P++U1++y::(U2++V++S))/\(∀v∈U2,a y<a v)/\∀u∈U1,a u<=a y:=by
 intro n
 induction n with
 |zero=>
  intro U V hU _ hN;have:=AB hU;subst this;refine⟨[],[],rfl,?_,by simp,by simp⟩;rw [A7,hB];simp only [Bs];rw [Af (by simp only [Bn];omega:¬((P.length+([]:List γ).length:Nat):Int)>(P.length:Nat))];simp
 |succ n ih=>
  intro U V hU hs hN
  rcases Hc U with rfl|⟨U0,z,rfl⟩
  ·simp at hU
  rw [Hd]at hU hs hN⊢;simp only [Ag,Ak]at hU hN;have hl:P.length+(U0++ [z]).length=(P++U0).length+1:=by simp;omega
  have e0:P++(U0++ [z])++y::(V++S)=(P++U0)++z::y::(V++S):=by simp
  have ej:sb (((P++U0).length+1:Nat):Int) 1=((P++U0).length:Nat):=by rw [Cw (by simp only [Ag];omega) (by simp only [Ag];omega)];omega
  have g1:gi ((P++U0)++z::y::(V++S)) (((P++U0).length+1:Nat):Int)=some y:=by
   have e:(P++U0)++z::y::(V++S)=((P++U0)++ [z])++y::(V++S):=by simp
   have hl':(P++U0).length+1=((P++U0)++ [z]).length:=by simp only [Ag,Ak]
   rw [e,hl',QW]
  have g2:qZ ((P++U0)++z::y::(V++S)) (((P++U0).length+1:Nat):Int) ((P++U0).length:Nat)=some (y,z):=by
   unfold qZ;rw [g1,Aa,QW];rfl
  by_cases b:a y<a z
  ·obtain⟨U1,U2,h1,h2,h3,h4⟩:=ih U0 (z::V) (by omega) (B4.1 hs).1 (by simp only [A0];omega);refine⟨U1,U2++ [z],by rw [h1];simp,?_,?_,h4⟩
   ·rw [A7,hB];simp only [Bs];rw [hl,e0,Ad (by simp only [Ag];omega:(((P++U0).length+1:Nat):Int)>(P.length:Nat)),Ae,ej,g2];simp only [Aa,Nj];rw [Ad b,Ae,mY,Aa];simp only;have:P++U0++y::z::(V++S)=P++U0++y::(z::V++S):=by simp
    rw [this,show(P++U0).length=P.length+U0.length from Ag,h2];simp
   intro v hv
   rcases Aj.1 hv with hv|hv
   ·exact h3 v hv
   rw [Aw]at hv;rw [hv];exact b
  refine⟨U0++ [z],[],by simp,?_,by simp,?_⟩
  ·rw [A7,hB];simp only [Bs];rw [hl,e0,Ad (by simp only [Ag];omega:(((P++U0).length+1:Nat):Int)>(P.length:Nat)),Ae,ej,g2];simp only [Aa,Nj];rw [Af b,Ab];simp
  intro u hu
  rcases Aj.1 hu with hu|hu
  ·have:=(B4.1 hs).2.2 u hu z (by simp);omega
  simp at hu;subst hu;omega
section
variable (key:γ->Int)
theorem IC (P X S:List γ) (hN:P.length+X.length+S.length<=1152921504606846976):
  ∃X',BS (Nj key) (P++X++S) (P.length:Nat) ((P.length+X.length:Nat):Int)=some (P++X'++S)/\Sf key X'/\Cg key X X':=by
 have main:∀(b:Nat) (B:Int×List γ->Option ((Int×List γ)⊕(List γ))),(∀i l,B (i,l)=Bx (Nj key) (P.length:Nat) (b:Int) i l)->∀(n:Nat) (U V:List γ),V.length=n->P.length+U.length+V.length=b->Sf key U->b+S.length<=1152921504606846976->
   ∃X',Au B (((P.length+U.length:Nat):Int),P++U++V++S)=some (P++X'++S)/\Sf key X'/\Cg key (U++V) X':=by
  intro b B hB n
  induction n with
  |zero=>
   intro U V hV hb hs hN;have:=AB hV;subst this;refine⟨U,?_,hs,by rw [Az];exact Cg.refl key U⟩;rw [A7,hB];simp only [Bx];simp only [Bn,Gy]at hb;rw [Af (by omega:¬((P.length+U.length:Nat):Int)<(b:Int)),Ab,Az]
  |succ n ih=>
   intro U V hV hb hs hN
   cases V with
   |nil=>simp at hV
   |cons y V=>
    simp only [A0]at hV hb;obtain⟨U1,U2,h1,h2,h3,h4⟩:=p9 key P (V++S) y (λs=>Bs (Nj key) (P.length:Nat) s.1 s.2) (λ_ _=>rfl) U.length U [] rfl hs (by simp only [Ag,Bn];omega);have hs':Sf key (U1++y::U2):=by
     rw [h1]at hs;obtain⟨q1,q2,q3⟩:=B4.1 hs;refine B4.2 ⟨q1,Db.2 ⟨λv hv=>mN (h3 v hv),q2⟩,λu hu v hv=>?_⟩
     rcases BA.1 hv with rfl|hv
     ·exact h4 u hu
     exact q3 u hu v hv
    have hk:Cg key (U++ [y]) (U1++y::U2):=by
     rw [h1,Ap];have:=Cg.swap key (a:=U2) (b:=[y]) (λx hx z hz=>by simp at hz;subst hz;exact h3 x hx);exact G5 key (Cg.refl key U1) this
    have c:(U1++y::U2).length=U.length+1:=by rw [h1];simp;omega
    obtain⟨X',r1,r2,r3⟩:=ih (U1++y::U2) V (by omega) (by rw [c];omega) hs' hN;refine⟨X',?_,r2,?_⟩
    ·rw [A7,hB];simp only [Bx];rw [Ad (by omega:((P.length+U.length:Nat):Int)<(b:Int)),Ae];have e:P++U++y::V++S=P++U++y::([]++(V++S)):=by simp
     rw [e,h2,Aa,ad1 (by omega)];simp only;rw [show P.length+U.length+1=P.length+(U1++y::U2).length by rw [c];omega];have e2:P++U1++y::(U2++ []++(V++S))=P++(U1++y::U2)++V++S:=by simp
     rw [e2,r1]
    refine Cg.trans key ?_ r3;have e3:U++y::V=(U++ [y])++V:=by simp
    rw [e3];exact G5 key hk (Cg.refl key V)
 unfold BS;rw [ad1 (by omega)]
 cases X with
 |nil=>
  refine⟨[],?_,List.Pairwise.nil,Cg.refl key _⟩;rw [A7];simp only [Bx];rw [Af (by simp only [Bn];omega:¬((P.length+1:Nat):Int)<((P.length+([]:List γ).length:Nat):Int))];rfl
 |cons x X=>
  obtain⟨X',h1,h2,h3⟩:=main (P.length+(x::X).length) (λs=>Bx (Nj key) (P.length:Nat) ((P.length+(x::X).length:Nat):Int) s.1 s.2) (λ_ _=>rfl) X.length [x] X rfl (by simp;omega) (M0 _ _) (by simp only [A0]at hN⊢;omega);refine⟨X',?_,h2,h3⟩;have e:P++x::X++S=P++ [x]++X++S:=by simp
  rw [e];simp only [Ak]at h1;rw [h1];rfl
end
def YV (i j:Int):Int:=IntKind.i64.wrap (Int.fdiv (IntKind.u64.wrap (ad i j)) (2^(min (1:Int).toNat IntKind.u64.bits)))
theorem cS (i j:Nat) (h:i+j<=4611686018427387904):YV (i:Int) (j:Int)=(((i+j)/2:Nat):Int):=by
 unfold YV;rw [CA (by omega) (by omega)];have e1:IntKind.u64.wrap ((i:Int)+(j:Int))=((i+j:Nat):Int):=by
  have:IntKind.u64.wrap ((i:Int)+(j:Int))=((i:Int)+(j:Int)) %18446744073709551616:=by simp [IntKind.wrap,IntKind.bits,IntKind.signed]
  rw [this];omega
 have e2:(2:Int)^(min (1:Int).toNat IntKind.u64.bits)=2:=by decide
 rw [e1,e2,Int.fdiv_eq_ediv_of_nonneg _ (by omega),NK (by omega) (by omega)];omega
theorem dW {B:Int×Int->Option ((Int×Int)⊕Int)} (p:Nat->Bool) (lo hi:Nat) (h1:∀i j:Nat,lo<=i->i<j->j<=hi->B ((i:Int),(j:Int))=some (.inl (bif p ((i+j)/2)then((((i+j)/2+1:Nat):Int),(j:Int))else((i:Int),(((i+j)/2:Nat):Int))))) (h2:∀i:Nat,B ((i:Int),(i:Int))=some (.inr (i:Int))):
  ∀(n i j:Nat),j-i<=n->lo<=i->i<=j->j<=hi->(lo<i->p (i-1)=true)->(j<hi->p j=false)->∃r:Nat,Au B ((i:Int),(j:Int))=some (r:Int)/\lo<=r/\r<=hi/\(lo<r->p (r-1)=true)/\(r<hi->p r=false):=by
 intro n
 induction n with
 |zero=>
  intro i j hn hl a hh k1 k2;have:i=j:=by omega
  subst this;exact⟨i,by rw [A7,h2],hl,hh,k1,k2⟩
 |succ n ih=>
  intro i j hn hl a hh k1 k2;by_cases he:i=j
  ·subst he;exact⟨i,by rw [A7,h2],hl,hh,k1,k2⟩
  rw [A7,h1 i j hl (by omega) hh]
  cases hp:p ((i+j)/2)with
  |true=>
   exact ih ((i+j)/2+1) j (by omega) (by omega) (by omega) hh (λ_=>by rw [Nat.add_sub_cancel];exact hp) k2
  |false=>
   exact ih i ((i+j)/2) (by omega) hl (by omega) (by omega) k1 (λ_=>hp)
theorem dN (P X T:List γ) (k:Nat) (hk:k<X.length):gi (P++X++T) ((P.length+k:Nat):Int)=some X[k]:=by
 rw [A9,Ap,AU (by omega),Nat.add_sub_cancel_left,AM hk,Ac hk]
theorem Tp (a:γ->Int) {X:List γ} {r:Nat} (h:Sf a X) (h0:0<r) (hr:r<=X.length):∀u∈X.take r,a u<=a (X[r-1]'(by omega)):=by
 intro u hu;obtain⟨i,hi,e⟩:=AI hu;rw [JQ]at e;simp only [AH]at hi;rw [<-e];by_cases b:i=r-1
 ·subst b;exact F7 _
 exact List.pairwise_iff_getElem.1 h i (r-1) (by omega) (by omega) (by omega)
theorem Tq (a:γ->Int) {X:List γ} {r:Nat} (h:Sf a X) (hr:r<X.length):∀v∈X.drop r,a X[r]<=a v:=by
 intro v hv;obtain⟨i,hi,e⟩:=AI hv;rw [SZ]at e;simp only [B7]at hi;rw [<-e];by_cases b:i=0
 ·subst b;simp
 exact List.pairwise_iff_getElem.1 h r (r+i) (by omega) (by omega) (by omega)
theorem sE (a:γ->Int) (S:List γ) (x:γ) (v2:Nat) (B:Int×List γ->Option ((Int×List γ)⊕(List γ))) (hB:∀k l,B (k,l)=DJ (Nj a) (v2:Int) k l):∀(Y P:List γ),P.length+Y.length+1=v2->v2<=1152921504606846976->
  Au B ((P.length:Int),P++x::(Y++S))=some (P++Y++x::S):=by
 intro Y
 induction Y with
 |nil=>
  intro P h hN;rw [A7,hB];simp only [DJ];simp only [Bn]at h;rw [Cw (by omega) (by omega),Af (by omega:¬(P.length:Int)<(v2:Int)-1)];simp
 |cons y Y ih=>
  intro P h hN;simp only [A0]at h;rw [A7,hB];simp only [DJ];rw [Cw (by omega) (by omega),Ad (by omega:(P.length:Int)<(v2:Int)-1),Ae,ad1 (by omega),BF,rI,Aa];simp only;have:=ih (P++ [y]) (by simp;omega) hN;simp only [Ag,Ak,Ap,Cm]at this;rw [this];simp
theorem xY (a:γ->Int) (P S:List γ) (y:γ) (B:Int×List γ->Option ((Int×List γ)⊕(List γ))) (hB:∀k l,B (k,l)=DI (Nj a) (P.length:Int) k l):∀(n:Nat) (X S:List γ),X.length=n->P.length+X.length<=1152921504606846976->
  Au B (((P.length+X.length:Nat):Int),P++X++y::S)=some (P++y::(X++S)):=by
 intro n
 induction n with
 |zero=>
  intro X S hX hN;have:=AB hX;subst this;rw [A7,hB];simp only [DI];rw [Af (by simp only [Bn];omega:¬((P.length+([]:List γ).length:Nat):Int)>(P.length:Int))];simp
 |succ n ih=>
  intro X S hX hN
  rcases Hc X with rfl|⟨X0,z,rfl⟩
  ·simp at hX
  rw [Hd]at hX hN⊢;simp only [Ag,Ak]at hX hN;have hl:P.length+(X0++ [z]).length=(P++X0).length+1:=by simp;omega
  have e0:P++(X0++ [z])++y::S=(P++X0)++z::y::S:=by simp
  have ej:sb (((P++X0).length+1:Nat):Int) 1=((P++X0).length:Nat):=by rw [Cw (by simp only [Ag];omega) (by simp only [Ag];omega)];omega
  rw [A7,hB];simp only [DI];rw [hl,e0,Ad (by simp only [Ag];omega:(((P++X0).length+1:Nat):Int)>(P.length:Int)),Ae,ej,mY,Aa];simp only;rw [show(P++X0).length=P.length+X0.length from Ag,ih X0 (z::S) (by omega) (by omega)];simp
section
variable (key:γ->Int)
set_option maxHeartbeats 1000000 in
theorem Vq:∀(n:Nat) (P X Y S:List γ),X≠ []->Y≠ []->Sf key X->Sf key Y->X.length+Y.length<=n->P.length+X.length+Y.length+S.length<=1152921504606846976->
  ∃Z,CK (Nj key) n (P++X++Y++S) (P.length:Nat) ((P.length+X.length:Nat):Int) ((P.length+X.length+Y.length:Nat):Int)=some (P++Z++S)/\Sf key Z/\Cg key (X++Y) Z:=by
 intro n
 induction n with
 |zero=>
  intro P X Y S hX hY _ _ hn _;exact absurd (AB (by omega)) hX
 |succ n ih=>
  intro P X Y S hX hY sX sY hn hN;have lX:=Iz.2 hX;have lY:=Iz.2 hY;have eXA:sb ((P.length+X.length:Nat):Int) (P.length:Nat)=(X.length:Int):=by rw [Cw (by omega) (by omega)];omega
  have eYB:sb ((P.length+X.length+Y.length:Nat):Int) ((P.length+X.length:Nat):Int)=(Y.length:Int):=by rw [Cw (by omega) (by omega)];omega
  rw [CK,eXA,eYB];by_cases a1:X.length=1
  ·obtain⟨x,rfl⟩:=List.length_eq_one_iff.1 a1;have:(((([x]:List γ).length:Nat):Int)==1)=true:=rfl;rw [this,Ae];simp only [Ak]at hn hN⊢;obtain⟨r,r1,r2,r3,r4,r5⟩:=dW (B:=λs:Int×Int=>Ev (Nj key) (P++ [x]++Y++S) (P.length:Nat) s.1 s.2) (λc=>match Y[c-(P.length+1)]? with|some y=>decide (key y<key x)|none=>false) (P.length+1) (P.length+1+Y.length)
    (λi j hi w hj=>by
     simp only [Ev];rw [Ad (by omega:(i:Int)<j),Ae];have hm:YV (i:Int) (j:Int)=(((i+j)/2:Nat):Int):=cS i j (by omega);unfold YV at hm;rw [hm];have hk:(i+j)/2-(P.length+1)<Y.length:=by omega
     have g1:gi (P++ [x]++Y++S) (((i+j)/2:Nat):Int)=some Y[(i+j)/2-(P.length+1)]:=by
      have:=dN (P++ [x]) Y S ((i+j)/2-(P.length+1)) hk;rw [show(P++ [x]).length+((i+j)/2-(P.length+1))=(i+j)/2 by simp;omega]at this;exact this
     have g2:gi (P++ [x]++Y++S) (P.length:Nat)=some x:=by
      have:=QW P (Y++S) x;simpa using this
     unfold qZ;rw [g1,Aa,g2,Aa,Aa,Ac hk];simp only [Nj];cases decide (key Y[(i+j)/2-(P.length+1)]<key x)
     ·rfl
     simp only [Ae];rw [ad1 (by omega)])
    (λi=>by
     simp only [Ev]
     rw [Af (by omega:¬(i:Int)<i),Ab])
    (Y.length) (P.length+1) (P.length+1+Y.length) (by omega) (A4 _) (by omega) (A4 _) (λh=>absurd h (by omega)) (λh=>absurd h (by omega))
   rw [r1,Aa];have f:Y.take (r-(P.length+1))++Y.drop (r-(P.length+1))=Y:=Bt _ _;have z:(Y.take (r-(P.length+1))).length=r-(P.length+1):=by simp;omega
   have h1:∀y∈Y.take (r-(P.length+1)),key y<key x:=by
    intro y hy;have h0:0<r-(P.length+1):=by
     rcases GT (r-(P.length+1))with e|e
     ·rw [e]at hy;simp at hy
     exact e
    have:=Tp key sY h0 (by omega) y hy;have hp:=r4 (by omega);rw [show r-1-(P.length+1)=r-(P.length+1)-1 by omega,Ac (by omega)]at hp;simp only [A5]at hp;omega
   have a2:∀y∈Y.drop (r-(P.length+1)),key x<=key y:=by
    intro y hy;have h0:r-(P.length+1)<Y.length:=by
     rcases Dh (r-(P.length+1)) Y.length with e|e
     ·exact e
     rw [CZ e]at hy;simp at hy
    have:=Tq key sY h0 y hy;have hp:=r5 (by omega);rw [Ac h0]at hp;simp only [AY]at hp;omega
   have hm:=sE key (Y.drop (r-(P.length+1))++S) x r (λs=>DJ (Nj key) (r:Int) s.1 s.2) (λ_ _=>rfl) (Y.take (r-(P.length+1))) P (by omega) (by omega);have e:P++ [x]++Y++S=P++x::(Y.take (r-(P.length+1))++(Y.drop (r-(P.length+1))++S)):=by
    rw [<-Ap (Y.take _),f];simp
   rw [e,hm,Aa];refine⟨Y.take (r-(P.length+1))++x::Y.drop (r-(P.length+1)),by simp,?_,?_⟩
   ·have sY':=sY;rw [<-f]at sY';obtain⟨q1,q2,q3⟩:=B4.1 sY';refine B4.2 ⟨q1,Db.2 ⟨a2,q2⟩,λu hu v hv=>?_⟩
    rcases BA.1 hv with rfl|hv
    ·exact mN (h1 u hu)
    exact q3 u hu v hv
   have:=Cg.swap key (a:=[x]) (b:=Y.take (r-(P.length+1))) (λu hu y hy=>by simp at hu;subst hu;exact h1 y hy);have:=G5 key this (Cg.refl key (Y.drop (r-(P.length+1))));rw [Ap,f,Ap]at this;exact this
  have:((X.length:Int)==1)=false:=by simpa using(by omega:¬(X.length:Int)=1)
  rw [this,Ab];by_cases f:Y.length=1
  ·obtain⟨y,rfl⟩:=List.length_eq_one_iff.1 f;have:(((([y]:List γ).length:Nat):Int)==1)=true:=rfl;rw [this,Ae];simp only [Ak]at hn hN⊢;have gY:gi (P++X++ [y]++S) ((P.length+X.length:Nat):Int)=some y:=by
    have:=QW (P++X) S y;rw [Ag]at this;simpa using this
   obtain⟨r,r1,r2,r3,r4,r5⟩:=dW (B:=λs:Int×Int=>Eu (Nj key) (P++X++ [y]++S) ((P.length+X.length:Nat):Int) s.1 s.2) (λc=>match X[c-P.length]? with|some x=>!decide (key y<key x)|none=>false) P.length (P.length+X.length)
    (λi j hi w hj=>by
     simp only [Eu];rw [Ad (by omega:(i:Int)<j),Ae];have hm:YV (i:Int) (j:Int)=(((i+j)/2:Nat):Int):=cS i j (by omega);unfold YV at hm;rw [hm];have hk:(i+j)/2-P.length<X.length:=by omega
     have g1:gi (P++X++ [y]++S) (((i+j)/2:Nat):Int)=some X[(i+j)/2-P.length]:=by
      have:=dN P X ([y]++S) ((i+j)/2-P.length) hk;rw [show P.length+((i+j)/2-P.length)=(i+j)/2 by omega]at this;rw [Ap];exact this
     unfold qZ;rw [gY,Aa,g1,Aa,Aa,Ac hk];simp only [Nj];cases decide (key y<key X[(i+j)/2-P.length])
     ·simp only [AG,Ae];rw [ad1 (by omega)]
     rfl)
    (λi=>by
     simp only [Eu]
     rw [Af (by omega:¬(i:Int)<i),Ab])
    (X.length) P.length (P.length+X.length) (by omega) (A4 _) (by omega) (A4 _) (λh=>absurd h (by omega)) (λh=>absurd h (by omega))
   rw [r1,Aa];have hX1':X.take (r-P.length)++X.drop (r-P.length)=X:=Bt _ _;have z:(X.take (r-P.length)).length=r-P.length:=by simp;omega
   have h2:(X.drop (r-P.length)).length=X.length-(r-P.length):=by simp
   have a3:∀x∈X.take (r-P.length),key x<=key y:=by
    intro x hx;have h0:0<r-P.length:=by
     rcases GT (r-P.length)with e|e
     ·rw [e]at hx;simp at hx
     exact e
    have:=Tp key sX h0 (by omega) x hx;have hp:=r4 (by omega);rw [show r-1-P.length=r-P.length-1 by omega,Ac (by omega)]at hp;simp only [CE,AY]at hp;omega
   have l:∀x∈X.drop (r-P.length),key y<key x:=by
    intro x hx;have h0:r-P.length<X.length:=by
     rcases Dh (r-P.length) X.length with e|e
     ·exact e
     rw [CZ e]at hx;simp at hx
    have:=Tq key sX h0 x hx;have hp:=r5 (by omega);rw [Ac h0]at hp;simp only [Bool.not_eq_false',A5]at hp;omega
   have m:(P++X.take (r-P.length)).length=r:=by rw [Ag,z];omega
   have hm:=xY key (P++X.take (r-P.length)) S y (λs=>DI (Nj key) (r:Int) s.1 s.2) (λ_ _=>by rw [m]) (X.drop (r-P.length)).length (X.drop (r-P.length)) S rfl (by rw [m,h2];omega);have e:P++X++ [y]++S=P++X.take (r-P.length)++X.drop (r-P.length)++y::S:=by
    have:P++X++ [y]++S=P++(X.take (r-P.length)++X.drop (r-P.length))++ [y]++S:=by rw [hX1']
    rw [this];simp
   rw [m,h2,show r+(X.length-(r-P.length))=P.length+X.length by omega]at hm;rw [e,hm,Aa];refine⟨X.take (r-P.length)++y::X.drop (r-P.length),by simp,?_,?_⟩
   ·have sX':=sX;rw [<-hX1']at sX';obtain⟨q1,q2,q3⟩:=B4.1 sX';refine B4.2 ⟨q1,Db.2 ⟨λv hv=>mN (l v hv),q2⟩,λu hu v hv=>?_⟩
    rcases BA.1 hv with rfl|hv
    ·exact a3 u hu
    exact q3 u hu v hv
   have:=Cg.swap key (a:=X.drop (r-P.length)) (b:=[y]) (λu hu v hv=>by simp at hv;subst hv;exact l u hu);have:=G5 key (Cg.refl key (X.take (r-P.length))) this;rw [<-Ap,hX1']at this;exact this
  have:((Y.length:Int)==1)=false:=by simpa using(by omega:¬(Y.length:Int)=1)
  rw [this,Ab];have g:YV (P.length:Nat) ((P.length+X.length+Y.length:Nat):Int)=(((P.length+(P.length+X.length+Y.length))/2:Nat):Int):=cS _ _ (by omega);unfold YV at g;rw [g];obtain⟨mid,h3⟩:∃mid,mid=(P.length+(P.length+X.length+Y.length))/2:=⟨_,rfl⟩;rw [<-h3];have en:ad (mid:Int) ((P.length+X.length:Nat):Int)=((mid+(P.length+X.length):Nat):Int):=by rw [CA (by omega) (by omega)];omega
  rw [en];obtain⟨lo,hi,a4,b2,b3,o,a0⟩:∃lo hi:Nat,((bif decide (((P.length+X.length:Nat):Int)>(mid:Int))then(some ((sb ((mid+(P.length+X.length):Nat):Int) ((P.length+X.length+Y.length:Nat):Int)),(mid:Int)))else(some (((P.length:Nat):Int),((P.length+X.length:Nat):Int))):Option (Int×Int))=some ((lo:Int),(hi:Int)))/\
    P.length<=lo/\hi<=P.length+X.length/\lo<=hi/\(P.length+X.length>mid/\lo=mid+(P.length+X.length)-(P.length+X.length+Y.length)/\hi=mid\/P.length+X.length<=mid/\lo=P.length/\hi=P.length+X.length):=by
   by_cases l:P.length+X.length>mid
   ·refine⟨mid+(P.length+X.length)-(P.length+X.length+Y.length),mid,?_,by omega,by omega,by omega,.inl ⟨l,rfl,rfl⟩⟩;rw [Ad (by omega),Ae,Cw (by omega) (by omega)];congr 2;omega
   exact⟨P.length,P.length+X.length,by rw [Af (by omega),Ab],by omega,by omega,by omega,.inr ⟨by omega,rfl,rfl⟩⟩
  rw [a4,Aa];simp only;have a5:sb ((mid+(P.length+X.length):Nat):Int) 1=((mid+(P.length+X.length)-1:Nat):Int):=by rw [Cw (by omega) (by omega)];omega
  obtain⟨r,r1,r2,r3,r4,r5⟩:=dW (B:=λs:Int×Int=>Et (Nj key) (P++X++Y++S) (P.length:Nat) ((P.length+X.length:Nat):Int) ((P.length+X.length+Y.length:Nat):Int) s.1 s.2)
   (λc=>match Y[mid+(P.length+X.length)-1-c-(P.length+X.length)]?,X[c-P.length]? with|some y,some x=>!decide (key y<key x)|_,_=>false) lo hi
   (λi j hi' w hj=>by
    simp only [Et];rw [Ad (by omega:(i:Int)<j),Ae,g,<-h3,en,a5];have hm:YV (i:Int) (j:Int)=(((i+j)/2:Nat):Int):=cS i j (by omega);unfold YV at hm;rw [hm];have hk:(i+j)/2-P.length<X.length:=by omega
    have d:mid+(P.length+X.length)-1-(i+j)/2-(P.length+X.length)<Y.length:=by omega
    have g1:gi (P++X++Y++S) (((i+j)/2:Nat):Int)=some X[(i+j)/2-P.length]:=by
     have:=dN P X (Y++S) ((i+j)/2-P.length) hk;rw [show P.length+((i+j)/2-P.length)=(i+j)/2 by omega]at this;rw [Ap];exact this
    have es:sb ((mid+(P.length+X.length)-1:Nat):Int) (((i+j)/2:Nat):Int)=(((P++X).length+(mid+(P.length+X.length)-1-(i+j)/2-(P.length+X.length)):Nat):Int):=by
     rw [Cw (by omega) (by omega),Ag];omega
    have g2:gi (P++X++Y++S) (((P++X).length+(mid+(P.length+X.length)-1-(i+j)/2-(P.length+X.length)):Nat):Int)=some Y[mid+(P.length+X.length)-1-(i+j)/2-(P.length+X.length)]:=dN (P++X) Y S _ d;unfold qZ;rw [es,g2,Aa,g1,Aa,Aa,Ac hk,Ac d];simp only [Nj];cases decide (key Y[mid+(P.length+X.length)-1-(i+j)/2-(P.length+X.length)]<key X[(i+j)/2-P.length])
    ·simp only [AG,Ae];rw [ad1 (by omega)]
    rfl)
   (λi=>by
    simp only [Et]
    rw [Af (by omega:¬(i:Int)<i),Ab])
   (hi-lo) lo hi (A4 _) (A4 _) o (A4 _) (λh=>absurd h (by omega)) (λh=>absurd h (by omega))
  rw [r1,Aa];obtain⟨fin,b1⟩:∃fin,fin=mid+(P.length+X.length)-r:=⟨_,rfl⟩;have h4:sb ((mid+(P.length+X.length):Nat):Int) (r:Int)=(fin:Int):=by rw [Cw (by omega) (by omega)];omega
  simp only [h4];have b4:P.length+X.length<=fin/\fin<=P.length+X.length+Y.length:=by omega
  obtain⟨A1,A2,hA⟩:∃A1 A2,A1=X.take (r-P.length)/\A2=X.drop (r-P.length):=⟨_,_,rfl,rfl⟩;obtain⟨B1,B2,hB⟩:∃B1 B2,B1=Y.take (fin-(P.length+X.length))/\B2=Y.drop (fin-(P.length+X.length)):=⟨_,_,rfl,rfl⟩;have p:A1++A2=X:=by rw [hA.1,hA.2];exact Bt _ _
  have q:B1++B2=Y:=by rw [hB.1,hB.2];exact Bt _ _
  have lA1:A1.length=r-P.length:=by rw [hA.1];simp;omega
  have lA2:A2.length=P.length+X.length-r:=by rw [hA.2];simp;omega
  have lB1:B1.length=fin-(P.length+X.length):=by rw [hB.1];simp;omega
  have lB2:B2.length=P.length+X.length+Y.length-fin:=by rw [hB.2];simp;omega
  have sX':=sX;rw [<-p]at sX';obtain⟨sA1,sA2,sA⟩:=B4.1 sX';have sY':=sY;rw [<-q]at sY';obtain⟨sB1,sB2,sB⟩:=B4.1 sY';have a6:∀u∈A1,∀v∈B2,key u<=key v:=by
   intro u hu v hv;have l1:=No hu;have l2:=No hv;have hp:=r4 (by omega);have d:mid+(P.length+X.length)-1-(r-1)-(P.length+X.length)<Y.length:=by omega
   have k:r-1-P.length<X.length:=by omega
   rw [Ac d,Ac k]at hp;simp only [CE,AY]at hp;rw [hA.1]at hu;have k1:=Tp key sX (r:=r-P.length) (by omega) (by omega) u hu;rw [hB.2]at hv;have k2:=Tq key sY (r:=fin-(P.length+X.length)) (by omega) v hv;have i1:X[r-P.length-1]'(by omega)=X[r-1-P.length]'k:=by congr 1;omega
   have i2:Y[fin-(P.length+X.length)]'(by omega)=Y[mid+(P.length+X.length)-1-(r-1)-(P.length+X.length)]'d:=by congr 1;omega
   rw [i1]at k1;rw [i2]at k2;omega
  have h5:∀x∈A2,∀y∈B1,key y<key x:=by
   intro x hx y hy;have l1:=No hx;have l2:=No hy;have hp:=r5 (by omega);have d:mid+(P.length+X.length)-1-r-(P.length+X.length)<Y.length:=by omega
   have k:r-P.length<X.length:=by omega
   rw [Ac d,Ac k]at hp;simp only [Bool.not_eq_false',A5]at hp;rw [hA.2]at hx;have k1:=Tq key sX k x hx;rw [hB.1]at hy;have k2:=Tp key sY (r:=fin-(P.length+X.length)) (by omega) (by omega) y hy;have i2:Y[fin-(P.length+X.length)-1]'(by omega)=Y[mid+(P.length+X.length)-1-r-(P.length+X.length)]'d:=by congr 1;omega
   rw [i2]at k2;omega
  have h6:(((bif decide ((r:Int)<((P.length+X.length:Nat):Int))then some (decide (((P.length+X.length:Nat):Int)<(fin:Int)))else some false:Option Bool).bind λj2=>
    (bif j2 then((Fi (Nj key) (P++X++Y++S) (r:Int) ((P.length+X.length:Nat):Int) (fin:Int)).bind λv11=>some v11)else some (P++X++Y++S):Option (List γ))))=some (P++A1++B1++A2++B2++S):=by
   have e:P++X++Y++S=(P++A1)++A2++B1++(B2++S):=by rw [<-p,<-q];simp
   by_cases c1:r<P.length+X.length
   ·rw [Ad (by omega:(r:Int)<((P.length+X.length:Nat):Int)),Ae,Aa];by_cases c2:P.length+X.length<fin
    ·rw [Ad (by omega:((P.length+X.length:Nat):Int)<(fin:Int)),Ae];have hr:=pB (lt:=Nj key) (P++A1) A2 B1 (B2++S) (by intro e;rw [e]at lA2;simp at lA2;omega) (by intro e;rw [e]at lB1;simp at lB1;omega) (by simp only [Ag];omega);rw [show(P++A1).length=r by rw [Ag];omega]at hr;rw [show r+A2.length=P.length+X.length by omega,show P.length+X.length+B1.length=fin by omega]at hr;rw [e,hr,Aa];simp
    rw [Af (by omega:¬((P.length+X.length:Nat):Int)<(fin:Int)),Ab,e];have:B1=[]:=AB (by omega);rw [this];simp
   rw [Af (by omega:¬(r:Int)<((P.length+X.length:Nat):Int)),Ab,Aa,Ab,e];have:A2=[]:=AB (by omega);rw [this];simp
  rw [<-Option.bind_assoc,h6,Aa]
  have h7:∃Z1,(((bif decide (((P.length:Nat):Int)<(r:Int))then some (decide ((r:Int)<(mid:Int)))else some false:Option Bool).bind λj4=>
    (bif j4 then((CK (Nj key) n (P++A1++B1++A2++B2++S) (P.length:Nat) (r:Int) (mid:Int)).bind λv12=>some v12)else some (P++A1++B1++A2++B2++S):Option (List γ))))=some (P++Z1++A2++B2++S)/\Sf key Z1/\Cg key (A1++B1) Z1:=by
   by_cases c1:P.length<r/\r<mid
   ·rw [Ad (by omega:((P.length:Nat):Int)<(r:Int)),Ae,Aa,Ad (by omega:(r:Int)<(mid:Int)),Ae];obtain⟨Z,z1,z2,z3⟩:=ih P A1 B1 (A2++B2++S) (by intro e;rw [e]at lA1;simp at lA1;omega) (by intro e;rw [e]at lB1;simp at lB1;omega) sA1 sB1 (by omega) (by simp only [Ag];omega);rw [show P.length+A1.length=r by omega,show r+B1.length=mid by omega]at z1;refine⟨Z,?_,z2,z3⟩;simp only [Ap]at z1⊢;rw [z1];rfl
   refine⟨A1++B1,?_,?_,Cg.refl key _⟩
   ·have:((bif decide (((P.length:Nat):Int)<(r:Int))then some (decide ((r:Int)<(mid:Int)))else some false:Option Bool))=some false:=by
     by_cases c:P.length<r
     ·rw [Ad (by omega),Ae,Af (by omega)]
     rw [Af (by omega),Ab]
    rw [this,Aa,Ab];simp
   by_cases c:P.length<r
   ·have:B1=[]:=AB (by omega);rw [this,Az];exact sA1
   have:A1=[]:=AB (by omega);rw [this,A6];exact sB1
  obtain⟨Z1,a7,a8,t⟩:=h7;rw [<-Option.bind_assoc,a7,Aa];have lZ1:Z1.length=A1.length+B1.length:=by have:=t.len key;rw [Ag]at this;omega
  have h8:∃Z2,(bif decide ((mid:Int)<(fin:Int))then(bif decide ((fin:Int)<((P.length+X.length+Y.length:Nat):Int))then((CK (Nj key) n (P++Z1++A2++B2++S) (mid:Int) (fin:Int) ((P.length+X.length+Y.length:Nat):Int)).bind λv13=>some v13)else some (P++Z1++A2++B2++S))else some (P++Z1++A2++B2++S):Option (List γ))=some (P++Z1++Z2++S)/\Sf key Z2/\Cg key (A2++B2) Z2:=by
   by_cases c1:mid<fin
   ·rw [Ad (by omega:(mid:Int)<(fin:Int)),Ae];by_cases c2:fin<P.length+X.length+Y.length
    ·rw [Ad (by omega:(fin:Int)<((P.length+X.length+Y.length:Nat):Int)),Ae];obtain⟨Z,z1,z2,z3⟩:=ih (P++Z1) A2 B2 S (by intro e;rw [e]at lA2;simp at lA2;omega) (by intro e;rw [e]at lB2;simp at lB2;omega) sA2 sB2 (by omega) (by simp only [Ag];omega);rw [show(P++Z1).length=mid by rw [Ag];omega,show mid+A2.length=fin by omega,show fin+B2.length=P.length+X.length+Y.length by omega]at z1;exact⟨Z,by rw [z1];rfl,z2,z3⟩
    rw [Af (by omega:¬(fin:Int)<((P.length+X.length+Y.length:Nat):Int)),Ab];have:B2=[]:=AB (by omega);refine⟨A2++B2,by simp,?_,Cg.refl key _⟩;rw [this,Az];exact sA2
   rw [Af (by omega:¬(mid:Int)<(fin:Int)),Ab];have:A2=[]:=AB (by omega);refine⟨A2++B2,by simp,?_,Cg.refl key _⟩;rw [this,A6];exact sB2
  obtain⟨Z2,a9,b0,h9⟩:=h8;rw [a9];refine⟨Z1++Z2,by simp,B4.2 ⟨a8,b0,λu hu v hv=>?_⟩,?_⟩
  ·have hu':=(t.mem key).1 hu;have hv':=(h9.mem key).1 hv
   rcases Aj.1 hu' with hu'|hu'<;>rcases Aj.1 hv' with hv'|hv'
   ·exact sA u hu' v hv'
   ·exact a6 u hu' v hv'
   ·exact mN (h5 v hv' u hu')
   exact sB u hu' v hv'
  have e1:=G5 key (Cg.refl key A1) (G5 key (Cg.swap key h5) (Cg.refl key B2));have e2:=G5 key t h9;have e3:=Cg.trans key (by simpa using e1) (by simpa using e2);have:X++Y=A1++(A2++(B1++B2)):=by rw [<-p,<-q];simp
  rw [this];simpa using e3
end
section
variable {γ:Type} (key:γ->Int)
inductive Blocks (bs:Nat):List γ->Prop
 |last {l:List γ} (h:l.length<=bs) (hs:Sf key l):Blocks bs l
 |cons {X l:List γ} (h:X.length=bs) (hs:Sf key X) (hl:Blocks bs l):Blocks bs (X++l)
end
theorem dY (c:γ->Int) (N:Nat) (hN:N<=1073741824) (B:Int×Int×List γ->Option ((Int×Int×List γ)⊕(Int×List γ))) (hB:∀a b l,B (a,b,l)=Dj (Nj c) (N:Int) a b l):
  ∀(k:Nat) (P T:List γ),T.length<=k->P.length+T.length=N->
   ∃Q R,Au B ((P.length:Int),((P.length+20:Nat):Int),P++T)=some (((P.length+Q.length:Nat):Int),P++Q++R)/\Cg c T (Q++R)/\R.length<20/\(∀R',Sf c R'->R'.length=R.length->Blocks c 20 (Q++R')):=by
 intro k
 induction k with
 |zero=>
  intro P T hT hP;have:=AB (Nat.le_zero.1 hT);subst this;refine⟨[],[],?_,Cg.refl c _,by simp,λR' h h2=>?_⟩
  ·rw [A7,hB];simp only [Dj];simp only [Bn]at hP;rw [Af (by omega:¬((P.length+20:Nat):Int)<=(N:Int))];simp
  rw [A6];exact .last (by simp only [Bn]at h2;omega) h
 |succ k ih=>
  intro P T hT hP;by_cases h20:T.length<20
  ·refine⟨[],T,?_,by rw [A6];exact Cg.refl c _,h20,λR' h h2=>by rw [A6];exact .last (by omega) h⟩;rw [A7,hB];simp only [Dj];rw [Af (by omega:¬((P.length+20:Nat):Int)<=(N:Int))];simp
  have d:T=T.take 20++T.drop 20:=(Bt _ _).symm;have l1:(T.take 20).length=20:=by simp;omega
  have l2:(T.drop 20).length=T.length-20:=by simp
  obtain⟨X',x1,x2,x3⟩:=IC c P (T.take 20) (T.drop 20) (by omega);have lX:X'.length=20:=by have:=x3.len c;omega
  rw [l1]at x1;obtain⟨Q,R,q1,q2,q3,q4⟩:=ih (P++X') (T.drop 20) (by omega) (by rw [Ag];omega);refine⟨X'++Q,R,?_,?_,q3,λR' h h2=>?_⟩
  ·rw [A7,hB];simp only [Dj];rw [Ad (by omega:((P.length+20:Nat):Int)<=(N:Int)),Ae];have e:P++T=P++T.take 20++T.drop 20:=by rw [Ap,Bt]
   rw [e,x1,Aa];simp only;have e2:ad ((P.length+20:Nat):Int) 20=(((P++X').length+20:Nat):Int):=by rw [CA (by omega) (by omega),Ag];omega
   rw [e2,show P.length+20=(P++X').length by rw [Ag];omega,q1];simp only [Ag,Ap,Fx]
  ·rw [Ap];have:=G5 c x3 q2;rw [Bt]at this;exact this
  rw [Ap];exact .cons lX x2 (q4 R' h h2)
theorem dX (c:γ->Int) (N bs:Nat) (hN:N<=1073741824) (f:0<bs) (g:bs<N) (B:Int×Int×List γ->Option ((Int×Int×List γ)⊕(Int×List γ))) (hB:∀a b l,B (a,b,l)=DD (Nj c) (N:Int) (bs:Int) a b l):
  ∀(k:Nat) (P T:List γ),T.length<=k->P.length+T.length=N->Blocks c bs T->
   ∃Q R,Au B ((P.length:Int),((P.length+2*bs:Nat):Int),P++T)=some (((P.length+Q.length:Nat):Int),P++Q++R)/\Cg c T (Q++R)/\R.length<2*bs/\Blocks c bs R/\(∀R',Sf c R'->R'.length=R.length->Blocks c (2*bs) (Q++R')):=by
 intro k
 induction k with
 |zero=>
  intro P T hT hP hb;have:=AB (Nat.le_zero.1 hT);subst this;refine⟨[],[],?_,Cg.refl c _,by simp;omega,hb,λR' h h2=>?_⟩
  ·rw [A7,hB];simp only [DD];simp only [Bn]at hP;rw [Af (by omega:¬((P.length+2*bs:Nat):Int)<=(N:Int))];simp
  rw [A6];exact .last (by simp only [Bn]at h2;omega) h
 |succ k ih=>
  intro P T hT hP hb;by_cases h2:T.length<2*bs
  ·refine⟨[],T,?_,by rw [A6];exact Cg.refl c _,h2,hb,λR' h h3=>by rw [A6];exact .last (by omega) h⟩;rw [A7,hB];simp only [DD];rw [Af (by omega:¬((P.length+2*bs:Nat):Int)<=(N:Int))];simp
  
  obtain⟨X,Y,T2,rfl,lX,lY,sX,sY,d⟩:∃X Y T2,T=X++Y++T2/\X.length=bs/\Y.length=bs/\Sf c X/\Sf c Y/\Blocks c bs T2:=by
   cases hb with
   |last h hs=>omega
   | @cons X l h hs hl=>
    cases hl with
    |last h' hs'=>
     simp only [Ag]at h2;exact⟨X,l,[],by simp,h,by omega,hs,hs',.last (by simp) List.Pairwise.nil⟩
    | @cons Y l' h' hs' hl'=>exact⟨X,Y,l',by simp,h,h',hs,hs',hl'⟩
  simp only [Ag]at hP hT h2;obtain⟨Z,z1,z2,z3⟩:=Vq c ((P++(X++Y++T2)).length+1) P X Y T2 (by intro e;rw [e]at lX;simp at lX;omega) (by intro e;rw [e]at lY;simp at lY;omega) sX sY (by simp only [Ag];omega) (by omega);have lZ:Z.length=2*bs:=by have:=z3.len c;rw [Ag]at this;omega
  obtain⟨Q,R,q1,q2,q3,q4,q5⟩:=ih (P++Z) T2 (by omega) (by rw [Ag];omega) d;refine⟨Z++Q,R,?_,?_,q3,q4,λR' h h3=>?_⟩
  ·rw [A7,hB];simp only [DD];rw [Ad (by omega:((P.length+2*bs:Nat):Int)<=(N:Int)),Ae];have e1:ad (P.length:Int) (bs:Int)=((P.length+X.length:Nat):Int):=by rw [CA (by omega) (by omega)];omega
   have e2:((P.length+2*bs:Nat):Int)=((P.length+X.length+Y.length:Nat):Int):=by omega
   have e3:ad ((P.length+2*bs:Nat):Int) (ml 2 (bs:Int))=(((P++Z).length+2*bs:Nat):Int):=by
    rw [On (by omega) (by omega),CA (by omega) (by omega),Ag];omega
   have e4:P++(X++Y++T2)=P++X++Y++T2:=by simp
   rw [e3,e1,e2,e4];rw [e4]at z1;rw [z1,Aa];simp only;rw [show P.length+X.length+Y.length=(P++Z).length by rw [Ag];omega,q1];simp only [Ag,Ap,Fx]
  ·have:=G5 c z3 q2;simpa only [Ap]using this
  rw [Ap];exact .cons lZ z2 (q5 R' h h3)
section
variable (key:γ->Int)
theorem Z4 (l:List γ) (hN:l.length<=1073741824):∃r,D1 (Nj key) l (ln l)=some r/\Sf key r/\Cg key l r:=by
 have rounds:∀(B:Int×List γ->Option ((Int×List γ)⊕(List γ))),(∀b l',B (b,l')=DE (Nj key) (l.length:Int) b l')->∀(k bs:Nat) (T:List γ),l.length<=bs+k->0<bs->bs<=2147483648->T.length=l.length->Blocks key bs T->∃r,Au B ((bs:Int),T)=some r/\Sf key r/\Cg key T r:=by
  intro B hB k
  induction k with
  |zero=>
   intro bs T hk c d hT hb;rw [A7,hB];simp only [DE];rw [Af (by omega:¬(bs:Int)<(l.length:Int)),Ab];refine⟨T,rfl,?_,Cg.refl key _⟩
   cases hb with
   |last h hs=>exact hs
   | @cons X l' h hs hl=>
    simp only [Ag]at hT;have:l'=[]:=AB (by omega);rw [this,Az];exact hs
  |succ k ih=>
   intro bs T hk c d hT hb;by_cases f:bs<l.length
   ·rw [A7,hB];simp only [DE];rw [Ad (by omega:(bs:Int)<(l.length:Int)),Ae];obtain⟨Q,R,q1,q2,q3,q4,q5⟩:=dX key l.length bs hN c f (λs=>DD (Nj key) (l.length:Int) (bs:Int) s.1 s.2.1 s.2.2) (λ_ _ _=>rfl) T.length [] T (A4 _) (by simp [hT]) hb;simp only [Bn,A6,HG]at q1;have a:Q.length+R.length=l.length:=by have:=q2.len key;rw [Ag]at this;omega
    have e2:ml 2 (bs:Int)=((2*bs:Nat):Int):=by rw [On (by omega) (by omega)];omega
    have e2':ml (bs:Int) 2=((2*bs:Nat):Int):=by rw [On (by omega) (by omega)];omega
    rw [e2,e2'];rw [show((0:Nat):Int)=0 from rfl]at q1;rw [q1,Aa];simp only;have em:ad (Q.length:Int) (bs:Int)=((Q.length+bs:Nat):Int):=by rw [CA (by omega) (by omega)];omega
    rw [em];by_cases hm:Q.length+bs<l.length
    ·rw [Ad (by omega:((Q.length+bs:Nat):Int)<(l.length:Int)),Ae];obtain⟨X,Y,rfl,lX,sX,sY⟩:∃X Y,R=X++Y/\X.length=bs/\Sf key X/\Sf key Y:=by
      cases q4 with
      |last h hs=>omega
      | @cons X l' h hs hl=>
       refine⟨X,l',rfl,h,hs,?_⟩
       cases hl with
       |last h' hs'=>exact hs'
       | @cons Y l'' h' hs' hl'=>
        simp only [Ag]at q3;have:l''=[]:=AB (by omega);rw [this,Az];exact hs'
     simp only [Ag]at a q3;obtain⟨Z,z1,z2,z3⟩:=Vq key ((Q++(X++Y)).length+1) Q X Y [] (by intro e;rw [e]at lX;simp at lX;omega) (by intro e;rw [e]at a;simp at a;omega) sX sY (by simp only [Ag];omega) (by simp only [Bn];omega);have e5:Q++X++Y++ []=Q++(X++Y):=by simp
     rw [e5,Az,lX,show Q.length+bs+Y.length=l.length by omega]at z1;rw [z1,Aa];have lZ:Z.length=(X++Y).length:=(z3.len key).symm;obtain⟨r,r1,r2,r3⟩:=ih (2*bs) (Q++Z) (by omega) (by omega) (by omega) (by rw [Ag,lZ,Ag];omega) (q5 Z z2 lZ);exact⟨r,r1,r2,Cg.trans key q2 (Cg.trans key (G5 key (Cg.refl key Q) z3) r3)⟩
    rw [Af (by omega:¬((Q.length+bs:Nat):Int)<(l.length:Int)),Ab];have sR:Sf key R:=by
     cases q4 with
     |last h hs=>exact hs
     | @cons X l' h hs hl=>
      simp only [Ag]at a;have:l'=[]:=AB (by omega);rw [this,Az];exact hs
    obtain⟨r,r1,r2,r3⟩:=ih (2*bs) (Q++R) (by omega) (by omega) (by omega) (by rw [Ag];omega) (q5 R sR rfl);exact⟨r,r1,r2,Cg.trans key q2 r3⟩
   exact ih bs T (by omega) c d hT hb
 unfold D1;rw [BG];obtain⟨Q,R,q1,q2,q3,q4⟩:=dY key l.length hN (λs=>Dj (Nj key) (l.length:Int) s.1 s.2.1 s.2.2) (λ_ _ _=>rfl) l.length [] l (A4 _) (by simp);simp only [Bn,A6,HG]at q1;rw [show((0:Nat):Int)=0 from rfl,show((20:Nat):Int)=20 from rfl]at q1;rw [q1,Aa];have a:Q.length+R.length=l.length:=by have:=q2.len key;rw [Ag]at this;omega
 obtain⟨R',r1,r2,r3⟩:=IC key Q R [] (by simp only [Bn];omega);rw [Az,Az,a]at r1;simp only;rw [r1,Aa];have lR:R'.length=R.length:=(r3.len key).symm;obtain⟨r,w1,w2,w3⟩:=rounds (λs=>DE (Nj key) (l.length:Int) s.1 s.2) (λ_ _=>rfl) l.length 20 (Q++R') (by omega) (by omega) (by omega) (by rw [Ag,lR];exact a) (q4 R' r2 lR);rw [show((20:Nat):Int)=20 from rfl]at w1;rw [w1];exact⟨r,rfl,w2,Cg.trans key q2 (Cg.trans key (G5 key (Cg.refl key Q) r3) w3)⟩
end
end Go.TI
