/- What walks of Go code need. No condition. -/
import Derived.Test.YtiaanofedbfeeaaGreatSVT3
import Derived.Laws.Strings
import Derived.Laws.BitsLemmas
set_option linter.unusedSimpArgs false
set_option linter.unusedVariables false
namespace Go.TI
open Go Go.RowKit
structure RS where
 s:List (Nat×SV)
 b:List (Root×List TV)
 a:Rz
def RS.st (x:RS):St:=AEd x.s x.b x.a
abbrev rs (s:List (Nat×SV)) (b:List (Root×List TV)):RS:=⟨s,b,Rz.none⟩
abbrev RR (s:List (Nat×SV)) (b:List (Root×List TV)) (a:Rz):RS:=⟨s,b,a⟩
def RS.in (X:RS) (E:St):Bool:=X.b.all λr=>r.1.mem&&(E.boxes r.1).isSome
def RS.nf (X:RS) (E:St):St:=MZ E (X.s.map Prod.fst)<|X.b.map Prod.fst
def Y9 (X:RS) (E:St):Prop:=X.in E=true/\X.nf E=X.st
variable {γ β α S V σ W S' β':Type} {E:St} {P:Program} {N i n by_:Nat} {Q:Exit->St->Prop} {ops ops2:Array Oper} {c y z:Code} {dn:List Nat} {X:RS} {fn:Func} {f:FuncId} {as:List AV} {p:Prop} {r:β} {l:List α} {x:Option α} {s0:S} {kk:α->Option β} {b:List γ} {body':S'->Option (S'⊕β)} {k:V->Option β} {H:V->RS} {a:List γ} {v:V} {s:σ} {H2:V->RS} {fin:α->List TV} {lt:γ->γ->Bool}
def jR (H:V->RS) (v:Option V) (Q:Exit->St->Prop):Exit->St->Prop
 | .normal,E=>∃a,v=some a/\Y9 (H a) E
 |e,E=>Q e E
def lR (id:Nat) (H:S->RS) (H2:V->RS) (o:S⊕V⊕W) (Q:Exit->St->Prop):Exit->St->Prop
 | .normal,E=>∃s,o= .inl s/\Y9 (H s) E
 | .exit i,E=>if i=id then∃v,o= .inr (.inl v)/\Y9 (H2 v) E else Q (.exit i) E
 |e,E=>Q e E
def lR1 (id:Nat) (H:S->RS) (H2:V->RS) (o:S⊕V) (Q:Exit->St->Prop):Exit->St->Prop
 | .normal,E=>∃s,o= .inl s/\Y9 (H s) E
 | .exit i,E=>if i=id then∃v,o= .inr v/\Y9 (H2 v) E else Q (.exit i) E
 |e,E=>Q e E
theorem Ay (h:Y9 X E) (hw:Wp P N c X.st Q):Wp P N c E Q:=Wp.norm _ _ _ (by rw[List.all_map];exact h.1) h.2 hw
theorem UW {x:Option V} (h:x.bind k=some r) (H:V->RS) (h1:∀a,x=some a->Wp P N c E (jR H (some a) Q)) (h2:∀a,k a=some r->∀E',Y9 (H a) E'->Q .normal E'):Wp P N c E Q:=by
 obtain⟨a,ha,h⟩:=An.1 h
 refine Wp.mono (h1 a ha) λe E' hq=>?_
 cases e<;>try exact hq
 obtain⟨a',h3,h4⟩:=hq
 grind
theorem fj2 {x:Option (V⊕W)} {k:V⊕W->Option β} (h:x.bind k=some r) (H:V->RS) (h1:∀a,x=some a->k a=some r->Wp P N c E (jR H a.getLeft? Q)) (h2:∀a,k (.inl a)=some r->∀E',Y9 (H a) E'->Q .normal E'):Wp P N c E Q:=by
 obtain⟨a,ha,h⟩:=An.1 h
 refine Wp.mono (h1 a ha h) λe E' hq=>?_
 cases e<;>try exact hq
 obtain⟨a',h3,h4⟩:=hq
 grind
theorem RT {A:Type} {H:S->RS} {a:A} {Q':Exit->St->Prop} {body:S->Option (S⊕A)} (hb:∀s o,body s=some o->(∀a',o= .inr a'->a'=a)->Wp P N c (H s).st (λe E=>match e with| .normal=>∃s,o= .inl s/\Y9 (H s) E|e=>Q' e E)):
  ∀{n:Nat} {s:S} {E:St},Y9 (H s) E->Qs body n s=some a->bX P N c Q' n E
 |0,s,E,_,h=>by cases h
 |n+1,s,E,hn,h=>by
  simp only[Qs]at h;simp only[bX];refine Ay hn ?_;split at h
  ·cases h
  ·rename_i s' hs
   refine Wp.mono (hb s _ hs (λa' h=>by cases h)) λe E' hq=>?_
   cases e<;>try exact hq
   obtain⟨s2,h2,h3⟩:=hq
   injection h2 with h2
   subst h2;exact RT hb h3 h
  rename_i a' hs
  injection h with h
  refine Wp.mono (hb s _ hs λa2 h2=>by grind) λe E' hq=>?_
  cases e<;>try exact hq
  grind
theorem AEk {id:Nat} {k:V⊕W->Option β} {H:S->RS} {body:S->Option (S⊕V⊕W)} (h:(Ap body s0).bind k=some r) (h0:Y9 (H s0) E) (hb:∀s o,body s=some o->(∀w,o= .inr (.inr w)->k (.inr w)=some r)->Wp P N c (H s).st (lR id H H2 o Q)) (h2:∀v,k (.inl v)=some r->∀E',Y9 (H2 v) E'->Q .normal E'):Wp P N (.block id (.loop c)) E Q:=by
 obtain⟨a,ha,h⟩:=An.1 h;obtain⟨n,hn⟩:=HJ.1 ha;refine Wp.block<|Wp.loop n<|RT (H:=H) (a:=a) (λs o hs ho=>?_) h0 hn
 refine Wp.mono (hb s o hs (λw hw=>by rw[ho _ hw];exact h)) λe E' hq=>?_
 cases e<;>try exact hq
 simp only[lR]at hq;simp only[Xl]
 grind
theorem AEl {id:Nat} {H:S->RS} {body:S->Option (S⊕V)} (h:(Ap body s0).bind k=some r) (h0:Y9 (H s0) E) (hb:∀s o,body s=some o->Wp P N c (H s).st (lR1 id H H2 o Q)) (h2:∀v,k v=some r->∀E',Y9 (H2 v) E'->Q .normal E'):Wp P N (.block id (.loop c)) E Q:=by
 obtain⟨a,ha,h⟩:=An.1 h;obtain⟨n,hn⟩:=HJ.1 ha;refine Wp.block<|Wp.loop n<|RT (H:=H) (a:=a) (λs o hs ho=>?_) h0 hn
 refine Wp.mono (hb s o hs) λe E' hq=>?_
 cases e<;>try exact hq
 simp only[lR1]at hq;simp only[Xl]
 grind
theorem LP {id:Nat} {k:V⊕W->Option β} {body:S->Option (S⊕V⊕W)} (h:(Ap body s0).bind k=some r) (H:S->RS) (H2:V->RS) (hb:∀s o,body s=some o->(∀w,o= .inr (.inr w)->k (.inr w)=some r)->Wp P N c (H s).st (lR id H H2 o Q)) (h2:∀v,k (.inl v)=some r->∀E',Y9 (H2 v) E'->Q .normal E') (h0:(H s0).in E=true:=by kernel_rfl) (hn:(H s0).nf E=(H s0).st:=by kernel_rfl):Wp P N (.block id<|.loop c) E Q:=AEk h ⟨h0,hn⟩ hb h2
theorem Ff {id:Nat} {body:S->Option (S⊕V)} (h:(Ap body s0).bind k=some r) (H:S->RS) (H2:V->RS) (hb:∀s o,body s=some o->Wp P N c (H s).st (lR1 id H H2 o Q)) (h2:∀v,k v=some r->∀E',Y9 (H2 v) E'->Q .normal E') (h0:(H s0).in E=true:=by kernel_rfl) (hn:(H s0).nf E=(H s0).st:=by kernel_rfl):Wp P N (.block id<|.loop c) E Q:=AEl h ⟨h0,hn⟩ hb h2
theorem D7 {x:Option V} (h:x.bind k=some r) (H:V->RS) (h1:∀a,x=some a->Wp P N c E (jR H (some a) (JV (λE'=>Wp P N y E' Q) Q))) (h2:∀a,k a=some r->Wp P N y (H a).st Q):Wp P N (.seq c y) E Q:=Wp.seq<|UW h H h1 λa ha E' hE=>Ay hE<|h2 a ha
theorem yC {id:Nat} {body:S->Option (S⊕V)} (h:(Ap body s0).bind k=some r) (H:S->RS) (H2:V->RS) (hb:∀s o,body s=some o->Wp P N c (H s).st (lR1 id H H2 o (JV (λE'=>Wp P N y E' Q) Q))) (h2:∀v,k v=some r->Wp P N y (H2 v).st Q) (h0:(H s0).in E=true:=by kernel_rfl) (hn:(H s0).nf E=(H s0).st:=by kernel_rfl):Wp P N (.seq (.block id<|.loop c) y) E Q:=Wp.seq<|AEl h ⟨h0,hn⟩ hb λv hv E' hE=>Ay hE<|h2 v hv
theorem yl2 {id:Nat} {k:V⊕W->Option β} {body:S->Option (S⊕V⊕W)} (h:(Ap body s0).bind k=some r) (H:S->RS) (H2:V->RS) (hb:∀s o,body s=some o->(∀w,o= .inr (.inr w)->k (.inr w)=some r)->Wp P N c (H s).st (lR id H H2 o (JV (λE'=>Wp P N y E' Q) Q))) (h2:∀v,k (.inl v)=some r->Wp P N y (H2 v).st Q) (h0:(H s0).in E=true:=by kernel_rfl) (hn:(H s0).nf E=(H s0).st:=by kernel_rfl):Wp P N (.seq (.block id<|.loop c) y) E Q:=Wp.seq<|AEk h ⟨h0,hn⟩ hb λv hv E' hE=>Ay hE<|h2 v hv
theorem en {a:V} (h:some v=some a) (hb:(H v).in E=true:=by kernel_rfl) (hn:(H v).nf E=(H v).st:=by kernel_rfl):∃a',some a=some a'/\Y9 (H a') E:=by
 injection h with h
 subst h;exact⟨_,rfl,hb,hn⟩
theorem em {a:V⊕W} (h:some (.inl v)=some a) (hb:(H v).in E=true:=by kernel_rfl) (hn:(H v).nf E=(H v).st:=by kernel_rfl):∃a',a.getLeft? =some a'/\Y9 (H a') E:=by
 injection h with h
 subst h;exact⟨_,rfl,hb,hn⟩
theorem el {H:S->RS} {o:S⊕W} {s:S} (h:some (.inl s)=some o) (hb:(H s).in E=true:=by kernel_rfl) (hn:(H s).nf E=(H s).st:=by kernel_rfl):∃s,o= .inl s/\Y9 (H s) E:=by
 injection h with h
 subst h;exact⟨_,rfl,hb,hn⟩
theorem ex {o:S⊕(V⊕W)} (h:some (.inr (.inl v))=some o) (hb:(H v).in E=true:=by kernel_rfl) (hn:(H v).nf E=(H v).st:=by kernel_rfl):∃v,o= .inr (.inl v)/\Y9 (H v) E:=by
 injection h with h
 subst h;exact⟨_,rfl,hb,hn⟩
theorem ev {o:S⊕V} (h:some (.inr v)=some o) (hb:(H v).in E=true:=by kernel_rfl) (hn:(H v).nf E=(H v).st:=by kernel_rfl):∃v,o= .inr v/\Y9 (H v) E:=by
 injection h with h
 subst h;exact⟨_,rfl,hb,hn⟩
def ADk (P:Program) (N:Nat) (ops:Array Oper) (ts mv dn:List Nat) (E:St) (X:RS):Bool:=match vT P N ops ts mv (ops.size+1) dn E with
 |some L=>L.all λE'=>X.in E'
 |none=>false
theorem ABJ {ts:List Nat} {mv:List Nat} (hb:ADk P N ops ts mv dn E X=true) (hn:(zV P N ops ts mv dn E).map X.nf=(zV P N ops ts mv dn E).map λ_=>X.st) (hq:∀E',Y9 X E'->Q .normal E'):KW P N ops ts dn E Q:=by
 unfold ADk at hb;split at hb
 ·rename_i L hL
  refine sW hL λE' hE=>hq E' ⟨Jm.1 hb E' hE,?_⟩
  rw[zV,hL,Bi]at hn;have:∀(L:List St),L.map X.nf=L.map (λ_=>X.st)->∀E'∈L,X.nf E'=X.st:=by simp
  exact this L hn E' hE
 cases hb
section
variable {ts:List Nat}
theorem PU {a:V} {Q0:Exit->St->Prop} (mv:List Nat) (h:some v=some a) (hb:ADk P N ops ts mv dn E (H v)=true:=by kernel_rfl) (hn:(zV P N ops ts mv dn E).map (H v).nf=(zV P N ops ts mv dn E).map (λ_=>(H v).st):=by kernel_rfl):KW P N ops ts dn E (jR H (some a) Q0):=
 ABJ hb hn λE' hE=>by
  injection h with h
  subst h;exact⟨_,rfl,hE⟩
end
theorem rk (k:Nat) (h:RW P N ops (i+k) (PB P N ops k 0 i E) Q) (hk:(R0 P N ops k 0 i E).isSome=true:=by kernel_rfl):RW P N ops i E Q:=xG k 0 h hk
theorem rkm (k m:Nat) (h:RW P N ops (i+k) (PB P N ops k m i E) Q) (hk:(R0 P N ops k m i E).isSome=true:=by kernel_rfl):RW P N ops i E Q:=xG k m h hk
theorem ABB (a b:Nat):Nat.ble a (b+(a-b))=true:=by rw[Qa];omega
theorem gm (m:Nat) (h:Q .normal (PB P N ops (ops.size-i) m i E)) (hk:(R0 P N ops (ops.size-i) m i E).isSome=true:=by kernel_rfl):RW P N ops i E Q:=xG (ops.size-i) m (RW.nil h<|ABB _ _) hk
theorem g0 (h:Q .normal (PB P N ops (ops.size-i) 0 i E)) (hk:(R0 P N ops (ops.size-i) 0 i E).isSome=true:=by kernel_rfl):RW P N ops i E Q:=gm 0 h hk
section
variable {id:Nat}
theorem wm (m:Nat) (h:RW P N ops2 0 (PB P N ops (ops.size-i) m i E) (JV (λE'=>Wp P N y E' Q) Q)) (hk:(R0 P N ops (ops.size-i) m i E).isSome=true:=by kernel_rfl):RW P N ops i E (JV (λE'=>Wp P N (.seq (.region id ops2 false) y) E' Q) Q):=gm m (ws h) hk
end
section
variable {id:Nat}
theorem w0 (h:RW P N ops2 0 (PB P N ops (ops.size-i) 0 i E) (JV (λE'=>Wp P N y E' Q) Q)) (hk:(R0 P N ops (ops.size-i) 0 i E).isSome=true:=by kernel_rfl):RW P N ops i E (JV (λE'=>Wp P N (.seq (.region id ops2 false) y) E' Q) Q):=wm 0 h hk
end
section
variable {id:Nat}
theorem wg (h:JV (λE'=>Wp P N y E' Q) Q .normal (PB P N ops (ops.size-0) 0 0 E)) (hk:(R0 P N ops (ops.size-0) 0 0 E).isSome=true:=by kernel_rfl):Wp P N (.seq (.region id ops false) y) E Q:=ws<|g0 h hk
end
section
variable {x:Code}
theorem qs (h:Wp P N x E (JV (λE'=>Wp P N y E' Q) Q)):Wp P N (.seq x y) E Q:=Wp.seq h
end
theorem qk (h:Q .normal E):Wp P N .skip E Q:=Wp.skip h
theorem qt (h:Q .ret E):Wp P N .ret E Q:=Wp.ret h
theorem qx {id:Nat} (h:Q (.exit id) E):Wp P N (.exit id) E Q:=Wp.exit h
theorem qb {id:Nat} (h:Wp P N c E (Xl id Q)):Wp P N (.block id c) E Q:=Wp.block h
theorem qr {id:Nat} (h:RW P N ops 0 E Q):Wp P N (.region id ops false) E Q:=ACY h
section
variable {id:Nat}
theorem qd {Q1:Exit->St->Prop} (h:Wp P N c E (Xl id (JV (λE'=>Wp P N y E' Q1) Q1))):Wp P N .skip E (JV (λE'=>Wp P N (.seq (.block id c) y) E' Q1) Q1):=qk<|qs<|qb h
end
section
variable {id:Nat}
theorem qw (h:JV (λE'=>Wp P N y E' (JV (λE'=>Wp P N z E' Q) Q)) (JV (λE'=>Wp P N z E' Q) Q) .normal (PB P N ops (ops.size-0) 0 0 E)) (hk:(R0 P N ops (ops.size-0) 0 0 E).isSome=true:=by kernel_rfl):Wp P N (.seq (.seq (.region id ops false) y) z) E Q:=qs<|wg h hk
end
section
variable {id:Nat}
theorem qv (h:RW P N ops 0 E (JV (λE'=>Wp P N y E' (JV (λE'=>Wp P N z E' Q) Q)) (JV (λE'=>Wp P N z E' Q) Q))):Wp P N (.seq (.seq (.region id ops false) y) z) E Q:=qs<|ws h
end
theorem wq {id:Nat} (h:Q .ret (PB P N ops (ops.size-0) 0 0 E)) (hk:(R0 P N ops (ops.size-0) 0 0 E).isSome=true:=by kernel_rfl):Wp P N (.seq (.region id ops false) .ret) E Q:=wg (qt h) hk
theorem aq {s:SV} (hp:Bg P E (oA ops i)=some s) (h:RW P N ops (i+1) (E.put (oA ops i).dst s) Q) (hk:zL P N ops i E=true:=by kernel_rfl):RW P N ops i E Q:=RW.q hp h hk
theorem C6 {s:SV} (k:Nat) (hp:Bg P (PB P N ops k 0 i E) (oA ops (i+k))=some s) (h:RW P N ops (i+k+1) ((PB P N ops k 0 i E).put (oA ops (i+k)).dst s) Q) (hk:(R0 P N ops k 0 i E).isSome=true:=by kernel_rfl) (hq:zL P N ops (i+k) (PB P N ops k 0 i E)=true:=by kernel_rfl):RW P N ops i E Q:=xG k 0 (RW.q hp h hq) hk
theorem kq {ts:List Nat} {s:SV} (i:Nat) (hp:Bg P E (oA ops i)=some s) (h:KW P N ops ts (i::dn) (E.put (oA ops i).dst s) Q) (hk:(zL P N ops i E&&pS ops ts dn i)=true:=by kernel_rfl):KW P N ops ts dn E Q:=KW.q i hp h hk
theorem ac {l:List AV} (h:x.bind kk=some r) {enc:α->SV} (a:∀v,x=some v->A9 P (PW (oA ops i)) l (enc v) (List.replicate n .gone)) (hk:∀v,kk v=some r->RW P N ops (i+1) ((clE P E (oA ops i) 0).put (oA ops i).dst (enc v)) Q) (b:cO P E (oA ops i) 0=some l:=by kernel_rfl) (hc:shB P E (oA ops i) 0=true\/∀v,Bb (enc v)=false:=by exact .inl<|by kernel_rfl) (ho:(R6 P ops E i&&TC P N (oA ops i))=true:=by kernel_rfl):RW P N ops i E Q:=RW.c 0 h a (λv _=>hk v) b hc ho
theorem Bu {l:List AV} (k:Nat) (h:x.bind kk=some r) {enc:α->SV} (a:∀v,x=some v->A9 P (PW (oA ops (i+k))) l (enc v) (List.replicate n .gone)) (hk:∀v,kk v=some r->RW P N ops (i+k+1) ((clE P (PB P N ops k 0 i E) (oA ops (i+k)) 0).put (oA ops (i+k)).dst (enc v)) Q) (hr:(R0 P N ops k 0 i E).isSome=true:=by kernel_rfl) (b:cO P (PB P N ops k 0 i E) (oA ops<|i+k) 0=some l:=by kernel_rfl) (hc:shB P (PB P N ops k 0 i E) (oA ops<|i+k) 0=true\/∀v,Bb (enc v)=false:=by exact .inl<|by kernel_rfl) (ho:(R6 P ops (PB P N ops k 0 i E) (i+k)&&TC P N (oA ops<|i+k))=true:=by kernel_rfl):RW P N ops i E Q:=xG k 0 (RW.c 0 h a (λv _=>hk v) b hc ho) hr
theorem acm {l:List AV} (m:Nat) (h:x.bind kk=some r) {enc:α->SV} (a:∀v,x=some v->A9 P (PW (oA ops i)) l (enc v) (List.replicate n .gone)) (hk:∀v,kk v=some r->RW P N ops (i+1) ((clE P E (oA ops i) m).put (oA ops i).dst (enc v)) Q) (b:cO P E (oA ops i) m=some l:=by kernel_rfl) (hc:shB P E (oA ops i) m=true\/∀v,Bb (enc v)=false:=by exact .inl<|by kernel_rfl) (ho:(R6 P ops E i&&TC P N (oA ops i))=true:=by kernel_rfl):RW P N ops i E Q:=RW.c m h a (λv _=>hk v) b hc ho
section
variable {ts:List Nat}
theorem Fd {l:List AV} (m:Nat) (h:x.bind kk=some r) {enc:α->SV} (a:∀v,x=some v->A9 P (PW (oA ops i)) l (enc v) (List.replicate n .gone)) (hk:∀v,kk v=some r->KW P N ops ts (i::dn) ((clE P E (oA ops i) m).put (oA ops i).dst (enc v)) Q) (b:cO P E (oA ops i) m=some l:=by kernel_rfl) (hc:shB P E (oA ops i) m=true\/∀v,Bb (enc v)=false:=by exact .inl<|by kernel_rfl) (ho:(R6 P ops E i&&TC P N (oA ops i)&&((bits m<|GD<|oA ops i).all (λx=>!x.1)||ts.contains i))=true:=by kernel_rfl):KB P N ops ts dn i E Q:=KB.c m h a (λv _=>hk v) b hc ho
end
theorem Ty {l:List AV} (h:x.bind kk=some r) {enc:α->SV} {a:List TV} (c:∀v,x=some v->A9 P (PW (oA ops i)) (.ext a::l) (enc v) (.ext (fin v)::List.replicate n .gone)) (hk:∀v,kk v=some r->RW P N ops (i+1) (((E.setRoot (oP E (oA ops i)) (fin v)).bump (oP E (oA ops i))).put (oA ops i).dst (enc v)) Q) (b:∀v,(fin v).length=a.length:=by exact λ_=>rfl) (d:wU P E (oA ops i)=some l:=by kernel_rfl) (hb:E.boxes (oP E<|oA ops i)=some a:=by kernel_rfl) (hc:cxB P E (oA ops i)=true\/∀v,Bb (enc v)=false/\AB (fin v)=false:=by exact .inl<|by kernel_rfl) (ho:(R6 P ops E i&&TC P N (oA ops i)&&wT E (oA ops i))=true:=by kernel_rfl):RW P N ops i E Q:=AEv h c b (λv _=>hk v) d hb hc ho
theorem kcx {ts:List Nat} {l:List AV} (h:x.bind kk=some r) {enc:α->SV} {a:List TV} (c:∀v,x=some v->A9 P (PW (oA ops i)) (.ext a::l) (enc v) (.ext (fin v)::List.replicate n .gone)) (hk:∀v,kk v=some r->KW P N ops ts (i::dn) (((E.setRoot (oP E (oA ops i)) (fin v)).bump (oP E (oA ops i))).put (oA ops i).dst (enc v)) Q) (b:∀v,(fin v).length=a.length:=by exact λ_=>rfl) (d:wU P E (oA ops i)=some l:=by kernel_rfl) (hb:E.boxes (oP E<|oA ops i)=some a:=by kernel_rfl) (hc:cxB P E (oA ops i)=true\/∀v,Bb (enc v)=false/\AB (fin v)=false:=by exact .inl<|by kernel_rfl) (ho:(R6 P ops E i&&TC P N (oA ops i)&&wT E (oA ops i)&&ts.contains i)=true:=by kernel_rfl):KB P N ops ts dn i E Q:=AEx h c b (λv _=>hk v) d hb hc ho
theorem BQ {tx ty:Option β} {b:Bool} (k t:Nat) (h:(bif b then tx else ty)=some r) (ht:tx=some r->RW P N ops (i+k) ((PB P N ops k 0 i E).rs t true) Q) (hf:ty=some r->RW P N ops (i+k) ((PB P N ops k 0 i E).rs t false) Q) (hr:(R0 P N ops k 0 i E).isSome=true:=by kernel_rfl) (hc:(PB P N ops k 0 i E).slots t=B b:=by kernel_rfl):RW P N ops i E Q:=xG k 0 (AEt t h ht hf hc) hr
def bR (fn:Func):Code:=fn.body.getD .skip
theorem Xk (h:fn.body.isSome=true):fn.body=some (bR fn):=by
 unfold bR
 cases e:fn.body with
 |none=>rw[e]at h;cases h
 |some c=>rfl
theorem gf {a:SV} (hf:P.funcs[f]?=some fn) (hN:fn.ntmps=N) (h:Wp P N (bR fn) (DE as) λe E=>(e= .normal\/e= .ret)/\∃ss E',Ea P E fn.results.toList=some (ss,E')/\EJ ss=a) (hb:fn.body.isSome=true:=by kernel_rfl):A9 P f as a (List.replicate as.length .gone):=gk hf (Xk hb) hN h
theorem gfa {Am:List γ->Rz} {xl:List γ} {A':Rz} (hf:P.funcs[f]?=some fn) (hN:fn.ntmps=N) (hB:∀l l',(Am l).B=(Am l').B/\(Am l).pin=none) (h:Wp P N (bR fn) (DE as (Am xl)) λe E=>(e= .normal\/e= .ret)/\E.amb=A') (hb:fn.body.isSome=true:=by kernel_rfl) (hr:fn.results= #[]:=by rfl):Nf P f (Am xl) as A':=wP hf (Xk hb) hr (hB xl xl).2 (by rw[hN];exact h)
theorem xZ {a cells':List TV} {b:SV} (hf:P.funcs[f]?=some fn) (hN:fn.ntmps=N) (h:Wp P N (bR fn) (DE (.ext a::as)) λe E=>(e= .normal\/e= .ret)/\∃ss E',Ea P E fn.results.toList=some (ss,E')/\EJ ss=b/\E'.boxes (.ext 0)=some cells') (hb:fn.body.isSome=true:=by kernel_rfl) (c:cells'.isEmpty=false:=by rfl):A9 P f (.ext a::as) b (.ext cells'::List.replicate as.length .gone):=gkx hf (Xk hb) hN h c
theorem AEY (h:Y9 X E) {a:List TV} (hc:X.st.boxes (.ext 0)=some a:=by kernel_rfl):(Exit.normal= .normal\/Exit.normal= .ret)/\∃ss E1,Ea P E []=some (ss,E1)/\EJ ss= .tup []/\E1.boxes (.ext 0)=some a:=by
 refine⟨.inl rfl,[],E,rfl,rfl,?_⟩;obtain⟨h1,h2⟩:=h;rw[<-h2]at hc;unfold RS.nf at hc;by_cases hm:(X.b.map Prod.fst).contains (.ext 0)=true
 ·have e:(MZ E (X.s.map Prod.fst)<|X.b.map Prod.fst).boxes (.ext 0)=some ((E.boxes<|.ext 0).getD []):=by
   show((X.b.map Prod.fst).map λr=>(r,(E.boxes r).getD [])).lookup (.ext 0)=_;rw[IZ (f:=λr=>(E.boxes r).getD []),Az hm]
  rw[e]at hc;unfold RS.in at h1;have h3:((E.boxes<|.ext 0).isSome)=true:=by grind
  cases he:E.boxes (.ext 0)with
  |none=>grind
  |some v=>grind
 have e:(MZ E (X.s.map Prod.fst)<|X.b.map Prod.fst).boxes (.ext 0)=none:=by
  show((X.b.map Prod.fst).map λr=>(r,(E.boxes r).getD [])).lookup (.ext 0)=_
  grind
 grind
theorem ABQ {Am:α->Rz} {v r:α} (h:some v=some r) (hE:Y9 X E) (hX:X.st.amb=Am v:=by kernel_rfl):(Exit.normal= .normal\/Exit.normal= .ret)/\E.amb=Am r:=by
 injection h with h
 rw[<-h,<-hX,<-hE.2];exact⟨.inl rfl,rfl⟩
theorem Px {n:Int} (h1: -9223372036854775808<=n) (h2:n<=9223372036854775807):IntKind.i64.wrap n=n:=by rw[IntKind.wrap_i64];omega
theorem Cy {a b:Int} (h1: -9223372036854775808<=a+b:=by omega) (h2:a+b<=9223372036854775807:=by omega):ad a b=a+b:=Px h1 h2
theorem Cm {a b:Int} (h1: -9223372036854775808<=a-b:=by omega) (h2:a-b<=9223372036854775807:=by omega):sb a b=a-b:=Px h1 h2
theorem PH {a b:Int} (h1: -9223372036854775808<=a*b) (h2:a*b<=9223372036854775807):ml a b=a*b:=Px h1 h2
theorem ad1 (h:i<9223372036854775807:=by omega):ad (i:Int) 1=((i+1:Nat):Int):=by rw[Cy]<;>omega
theorem Jq (a b:ByteArray):seq a b=decide (a=b):=by
 unfold seq;rw[DR,Ce,A6];constructor
 ·intro h;rw[ByteArray.toList_eq,ByteArray.toList_eq]at h;cases a;cases b;simp only[ByteArray.mk.injEq];exact ACz h
 intro h;rw[h]
theorem Aw:gi l (i:Int)=l[i]? :=by
 unfold gi;rw[Az<|by omega];simp
theorem EX {x:α}:si l (i:Int) x=l.set i x:=by simp[si]
theorem KH:decide ((i:Int)<ln l)=decide (i<l.length):=by
 rw[DR,A6,A6];simp[ln]
theorem cF {a b:α} [Decidable p] (h:¬p:=by omega):cond (decide p) a b=b:=by rw[Af h,Ac]
theorem cT {a b:α} [Decidable p] (h:p:=by omega):cond (decide p) a b=a:=by rw[Ad h,Ae]
theorem DT {a b:β}:cond (decide (((l.length:Nat):Int)<ln l)) a b=b:=cF (by rw[ln];omega)
theorem Ev {a b:β} (h:i<l.length):cond (decide ((i:Int)<ln l)) a b=a:=cT (by rw[ln];omega)
def PR (step:σ->Nat->α->σ⊕β) (fin:σ->β):List α->Nat->σ->β
 |[],_,s=>fin s
 |x::l,i,s=>match step s i x with
  | .inl s'=>PR step fin l (i+1) s'
  | .inr b=>b
theorem gA {body:S->Option (S⊕β)} (a:σ->Int->S) (l:List α) (step:σ->Nat->α->σ⊕β) (fin:σ->β) (c:Nat->σ->Prop) (h1:∀s i x,l[i]?=some x->c i s->body (a s (i:Nat))=some (match step s i x with| .inl s'=> .inl (a s' ((i+1:Nat):Int))| .inr b=> .inr b)/\∀s',step s i x= .inl s'->c (i+1) s') (h2:∀s,c l.length s->body (a s (l.length:Nat))=some (.inr (fin s))):∀(n i:Nat) (s:σ),i+n=l.length->c i s->Ap body (a s (i:Nat))=some (PR step fin (l.drop i) i s)
 |0,i,s,hi,hs=>by
  have:i=l.length:=by omega
  subst this;rw[A0,h2 s hs,DY<|Au _];rfl
 |n+1,i,s,hi,hs=>by
  have d:i<l.length:=by omega
  obtain⟨h3,h4⟩:=h1 s i l[i] (Ab d) hs;rw[A0,h3,AS d,PR]
  cases e:step s i l[i]with
  |inl s'=>simp only[];exact gA a l step fin c h1 h2 n (i+1) s' (by omega)<|h4 s' e
  |inr b=>rfl
theorem Q5 {body:S->Option (S⊕β)} (a:σ->Int->S) (l:List α) (step:σ->Nat->α->σ⊕β) (fin:σ->β) (c:Nat->σ->Prop) (h1:∀s i x,l[i]?=some x->c i s->body (a s (i:Nat))=some (match step s i x with| .inl s'=> .inl (a s' ((i+1:Nat):Int))| .inr b=> .inr b)/\∀s',step s i x= .inl s'->c (i+1) s') (h2:∀s,c l.length s->body (a s (l.length:Nat))=some (.inr (fin s))) (hs:c 0 s):Ap body (a s 0)=some (PR step fin l 0 s):=
 gA a l step fin c h1 h2 l.length 0 s (by omega) hs
def zl (z:α->Nat) (l:List α):Nat:=l.length+(l.map z).sum
theorem hJ {z:α->Nat} {x:α} (h:x∈l):z x+1<=zl z l:=by
 unfold zl
 induction l with
 |nil=>cases h
 |cons y l ih=>
  simp only[BJ,FI,A7]
  rcases CO.1 h with rfl|h
  ·omega
  have:=ih h;omega
theorem RA {z:α->Nat}:l.length<=zl z l:=by unfold zl;omega
theorem uV {body:Int->Option (Int⊕Unit⊕Bool)} (a:List α) (b:List β) (p:α->β->Bool) (hl:a.length=b.length) (hM:a.length<=9223372036854775807) (h1:∀(i:Nat) x y,a[i]?=some x->b[i]?=some y->body (i:Nat)=some (bif p x y then .inl (((i+1:Nat)):Int)else .inr (.inr false))) (h2:body (a.length:Nat)=some (.inr (.inl ()))):
  Ap body 0=some (bif(a.zip b).all (λz=>p z.1 z.2)then .inl ()else .inr false):=by
 have hz:(a.zip b).length=a.length:=by simp[hl]
 have:=Q5 (body:=body) (λ(_:Unit) i=>i) (a.zip b) (λ_ _ z=>bif p z.1 z.2 then .inl ()else .inr<|.inr false) (λ_=> .inl ()) (λ_ _=>True)
  (λs i x hx _=>by
   refine⟨?_,λ_ _=>trivial⟩;obtain⟨x1,x2⟩:=x;have hx':=Ag.1 hx;obtain⟨d,hx'⟩:=hx';rw[List.getElem_zip]at hx'
   injection hx' with e1 e2
   rw[h1 i x1 x2 (by rw[<-e1];exact Ab _) (by rw[<-e2];exact Ab _)];simp only
   cases p x1 x2<;>rfl)
  (λs _=>by rw[hz];exact h2) (s:=()) trivial
 rw[this];have c:∀(m:List (α×β)) (i:Nat),PR (λ(_:Unit) _ z=>bif p z.1 z.2 then .inl ()else .inr<|.inr false) (λ_=>(.inl ():Unit⊕Bool)) m i ()=bif m.all (λz=>p z.1 z.2)then .inl ()else .inr false:=by
  intro m
  induction m with
  |nil=>intro i;rfl
  |cons z m ih=>
   intro i;simp only[PR,FK]
   cases p z.1 z.2 with
   |false=>rfl
   |true=>simp only[Ae,CZ];exact ih _
 rw[c]
theorem tD {p:α->α->Bool}:∀{a b:List α},(∀x∈a,∀y∈b,p x y=true↔x=y)->a.length=b.length->((a.zip b).all (λz=>p z.1 z.2)=true↔a=b)
 |[],[],_,_=>by simp
 |x::a,y::b,hp,h=>by
  have ih:=tD (p:=p) (a:=a) (b:=b) (λx' hx y' hy=>hp x' (FR _ hx) y'<|FR _ hy) (by simpa using h);simp only[List.zip_cons_cons,FK,Aj,ih,hp x CY y CY,R3]
 |[],_::_,_,h=>by simp at h
 |_::_,[],_,h=>by simp at h
theorem VP {body:S->Option (S⊕β)} (a:σ->Int->S) (n:Nat) (c:Nat->σ->Prop) (Q:β->Prop) (h1:∀s i,i<n->c i s->(∃s',body (a s (i:Nat))=some (.inl (a s' ((i+1:Nat):Int)))/\c (i+1) s')\/∃b,body (a s (i:Nat))=some (.inr b)/\Q b) (h2:∀s,c n s->∃b,body (a s (n:Nat))=some (.inr b)/\Q b):∀(k i:Nat) (s:σ),i+k=n->c i s->∃b,Ap body (a s (i:Nat))=some b/\Q b
 |0,i,s,hi,hs=>by
  have:i=n:=by omega
  subst this;obtain⟨b,h3,h4⟩:=h2 s hs;exact⟨b,by rw[A0,h3],h4⟩
 |k+1,i,s,hi,hs=>by
  rcases h1 s i (by omega) hs with⟨s',h3,h4⟩|⟨b,h3,h4⟩
  ·obtain⟨b,h5,h6⟩:=VP a n c Q h1 h2 k (i+1) s' (by omega) h4;exact⟨b,by rw[A0,h3];exact h5,h6⟩
  exact⟨b,by rw[A0,h3],h4⟩
theorem AP {body:S->Option (S⊕β)} (a:σ->Int->S) (n:Nat) (c:Nat->σ->Prop) (Q:β->Prop) (h1:∀s i,i<n->c i s->(∃s',body (a s (i:Nat))=some (.inl (a s' ((i+1:Nat):Int)))/\c (i+1) s')\/∃b,body (a s (i:Nat))=some (.inr b)/\Q b) (h2:∀s,c n s->∃b,body (a s (n:Nat))=some (.inr b)/\Q b) (hs:c 0 s):∃b,Ap body (a s 0)=some b/\Q b:=
 VP a n c Q h1 h2 n 0 s (by omega) hs
theorem WM {body body':S->Option (S⊕β)} (a:σ->Int->S) (n:Nat) (c:Nat->σ->Prop) (Q:β->Prop) (h1:∀s i,i<n->c i s->body' (a s (i:Nat))=body (a s (i:Nat))/\((∃s',body (a s (i:Nat))=some (.inl (a s' ((i+1:Nat):Int)))/\c (i+1) s')\/∃b,body (a s (i:Nat))=some (.inr b)/\Q b)) (h2:∀s,c n s->body' (a s (n:Nat))=body (a s (n:Nat))/\∃b,body (a s (n:Nat))=some (.inr b)/\Q b):∀(k i:Nat) (s:σ),i+k=n->c i s->∃b,Ap body (a s (i:Nat))=some b/\Ap body' (a s (i:Nat))=some b/\Q b
 |0,i,s,hi,hs=>by
  have:i=n:=by omega
  subst this;obtain⟨e,b,h3,h4⟩:=h2 s hs;exact⟨b,by rw[A0,h3],by rw[A0,e,h3],h4⟩
 |k+1,i,s,hi,hs=>by
  obtain⟨e,h⟩:=h1 s i (by omega) hs
  rcases h with⟨s',h3,h4⟩|⟨b,h3,h4⟩
  ·obtain⟨b,h5,h6,h7⟩:=WM a n c Q h1 h2 k (i+1) s' (by omega) h4;exact⟨b,by rw[A0,h3];exact h5,by rw[A0,e,h3];exact h6,h7⟩
  exact⟨b,by rw[A0,h3],by rw[A0,e,h3],h4⟩
theorem I6 {body body':S->Option (S⊕β)} (a:σ->Int->S) (n:Nat) (c:Nat->σ->Prop) (Q:β->Prop) (h1:∀s i,i<n->c i s->body' (a s (i:Nat))=body (a s (i:Nat))/\((∃s',body (a s (i:Nat))=some (.inl (a s' ((i+1:Nat):Int)))/\c (i+1) s')\/∃b,body (a s (i:Nat))=some (.inr b)/\Q b)) (h2:∀s,c n s->body' (a s (n:Nat))=body (a s (n:Nat))/\∃b,body (a s (n:Nat))=some (.inr b)/\Q b) (hs:c 0 s):∃b,Ap body (a s 0)=some b/\Ap body' (a s 0)=some b/\Q b:=
 WM a n c Q h1 h2 n 0 s (by omega) hs
theorem ZX {body:Int->Option (Int⊕β)} (l:List α) (p:Nat->α->Bool) (no yes:β) (hM:l.length<=9223372036854775807) (h1:∀(i:Nat) x,l[i]?=some x->body (i:Nat)=some (bif p i x then .inl (((i+1:Nat)):Int)else .inr no)) (h2:body (l.length:Nat)=some (.inr yes)):
  Ap body 0=some (bif l.zipIdx.all (λz=>p z.2 z.1)then yes else no):=by
 have:=Q5 (body:=body) (λ(_:Unit) i=>i) l (λ_ i x=>bif p i x then .inl ()else .inr no) (λ_=>yes) (λ_ _=>True)
  (λs i x hx _=>by
   refine⟨?_,λ_ _=>trivial⟩;rw[h1 i x hx]
   cases p i x<;>rfl)
  (λs _=>h2) (s:=()) trivial
 rw[this];have a:∀(m:List α) (i:Nat),PR (λ(_:Unit) i x=>bif p i x then .inl ()else .inr no) (λ_=>yes) m i ()=bif(m.zipIdx i).all (λz=>p z.2 z.1)then yes else no:=by
  intro m
  induction m with
  |nil=>intro i;rfl
  |cons z m ih=>
   intro i;simp only[PR,List.zipIdx_cons,FK]
   cases p i z with
   |false=>rfl
   |true=>simp only[Ae,CZ];exact ih _
 rw[a]
theorem VO {body:Int×List γ->Option ((Int×List γ)⊕List γ)} (l:List α) (f:α->γ) (h1:∀(i:Nat) x (a:List γ),l[i]?=some x->a.length=i->body ((i:Nat),a)=some (.inl (((i+1:Nat):Int),a++ [f x]))) (h2:∀a,body ((l.length:Nat),a)=some (.inr a)):
  Ap body (0,[])=some (l.map f):=by
 have:=Q5 (body:=body) (λ(s:List γ) i=>(i,s)) l (λa _ x=>(.inl (a++ [f x]):List γ⊕List γ)) (λa=>a) (λi a=>a.length=i)
  (λs i x hx hi=>by
   refine⟨h1 i x s hx hi,λs' hs=>?_⟩
   injection hs with hs
   rw[<-hs,Ai,A8,hi])
  (λs _=>h2 s) (s:=[]) rfl
 rw[this];have b:∀(m:List α) (i:Nat) (a:List γ),PR (λa _ x=>(.inl (a++ [f x]):List γ⊕List γ)) (λa=>a) m i a=a++m.map f:=by
  intro m
  induction m with
  |nil=>intro i a;simp[PR]
  |cons z m ih=>
   intro i a;simp only[PR,ih,BJ,Ax,D6]
 rw[b,A4]
theorem rC {body:Int×List γ->Option ((Int×List γ)⊕List γ)} (n:Nat) (f:Nat->γ) (h1:∀(i:Nat) (a:List γ),i<n->a.length=i->body ((i:Nat),a)=some (.inl (((i+1:Nat):Int),a++ [f i]))) (h2:∀a,body ((n:Nat),a)=some (.inr a)):
  Ap body (0,[])=some ((List.range n).map f):=
 VO (List.range n) f (λi x a hx ho=>by
  obtain⟨b,hx⟩:=Ag.1 hx;rw[List.getElem_range]at hx;rw[<-hx]
  exact h1 i a (by simpa using b) ho) (λa=>by rw[CS];exact h2 a)
theorem WK {z:α} (h:by_*n<=281474976710656) (h2:n<=9223372036854775807):mk by_ z (n:Int)=some (List.replicate n z):=by
 unfold mk;have:((by_*n:Nat):Int)<=281474976710656:=by omega
 rw[Int.natCast_mul]at this;rw[Az ⟨by omega,this,by omega⟩,AZ]
theorem BS {m:List α} (h:(l.length+m.length)*by_<=140737488355328):ap by_ l m=some (l++m):=Az h
theorem KX {i:Int} (h1:0<=i) (h2:i<l.length):gi l i=some (l[i.toNat]'(by omega)):=by
 unfold gi;rw[Az h1];exact Ab _
theorem Bz:ln l=(l.length:Int):=rfl
def L (s:ByteArray):List UInt8:=s.data.toList
theorem Lg {a b:ByteArray} (h:L a=L b):a=b:=by
 cases a;cases b;simp only[L]at h;simp only[ByteArray.mk.injEq];exact ACz h
theorem Xr (s:ByteArray):(L s).length=s.size:=by cases s;rfl
theorem DZ (a b:ByteArray):L (a++b)=L a++L b:=by simp[L]
theorem EU (l:List UInt8):L (bs l)=l:=by simp[L,bs]
theorem LX (l:List Int):L (Fl l)=l.map λn=>UInt8.ofNat n.toNat:=strOfNums_data l
theorem IR (s:ByteArray) (i j:Nat):L (s.extract i j)=((L s).drop i).take (j-i):=by
 have:s=ByteArray.mk (L s).toArray:=by cases s;simp[L]
 rw[this,ByteArray.extract_mk];simp[L]
theorem B8 (s:ByteArray):FO s=((L s).length:Int):=by rw[Xr];rfl
theorem Fk (s:ByteArray) (h:i<(L s).length):sx s (i:Int)=some (((L s)[i]).toNat:Int):=by
 have h':i<s.size:=by rw[<-Xr];exact h
 unfold sx;rw[Az ⟨by omega,by omega⟩];unfold Bg.bt;rw[dif_pos<|by simpa using h'];rfl
theorem FM {j:Nat} (s:ByteArray) (h1:i<=j) (h2:j<=(L s).length):sub s (i:Int) (j:Int)=some (s.extract i j):=by
 rw[Xr]at h2;unfold sub;rw[Az ⟨by omega,by omega,by omega⟩,AZ,AZ]
theorem FV (a b:ByteArray) (h:(L a).length+(L b).length<=9223372036854775807):Ic a b=some (a++b):=by
 rw[Xr,Xr]at h;unfold Ic;rw[Av<|by omega]
theorem Rt (a b:ByteArray):seq a b=decide (L a=L b):=by
 rw[Jq,DR,A6,A6];exact⟨λh=>by rw[h],Lg⟩
def Cs (n:Nat):List UInt8:=if h:n<=127 then [UInt8.ofNat n]else UInt8.ofNat (n %128+128)::Cs (n/128)
termination_by n
decreasing_by omega
def Fx:List UInt8->Nat
 |[]=>0
 |d::ds=>d.toNat %128+128*Fx ds
theorem O5:∀(ds es:List UInt8),Fx (ds++es)=Fx ds+128^ds.length*Fx es
 |[],es=>by simp[Fx]
 |d::ds,es=>by
  simp only[B4,Fx,O5 ds es,A7,Yt];rw[Nat.mul_add,Kq];congr 2;rw[<-Nat.mul_assoc,sU 128]
theorem lT (d:UInt8):d.toNat<256:=d.toNat_lt
theorem JQ (h:n<=127):Cs n=[UInt8.ofNat n]:=by rw[Cs,dif_pos h]
theorem SA (h:¬n<=127):Cs n=UInt8.ofNat (n %128+128)::Cs (n/128):=by rw[Cs,dif_neg h]
theorem eP:∀{ds:List UInt8} {x:UInt8},Fx (ds++ [x])=0->x.toNat<128->x.toNat=0
 |[],x,h,hx=>by simp[Fx]at h;omega
 |d::ds,x,h,hx=>by
  simp only[B4,Fx]at h;exact eP (ds:=ds) (by omega) hx
theorem gL:∀(ds:List UInt8) (x:UInt8),(∀d∈ds,128<=d.toNat)->x.toNat<128->(Cs (Fx (ds++ [x]))=ds++ [x]↔¬(x.toNat=0/\ds≠ []))
 |[],x,_,hx=>by
  have:Fx ([]++ [x])=x.toNat:=by simp[Fx];omega
  rw[this,JQ<|by omega];simp
 |d::ds,x,hd,hx=>by
  have ih:=gL ds x (λe he=>hd e<|FR _ he) hx;have h1:=hd d CY;have h2:=lT d;have hv:Fx (d::ds++ [x])=d.toNat-128+128*Fx (ds++ [x]):=by
   simp only[B4,Fx];omega
  rw[hv];by_cases h0:Fx (ds++ [x])=0
  ·have a:=eP h0 hx;rw[h0,JQ<|by omega];refine iff_of_false ?_ (by simp[a]);intro e;have:=BE List.length e;simp at this
  rw[SA<|by omega];have e1:UInt8.ofNat ((d.toNat-128+128*Fx (ds++ [x])) %128+128)=d:=by
   have:(d.toNat-128+128*Fx (ds++ [x])) %128+128=d.toNat:=by omega
   rw[this,UInt8.ofNat_toNat]
  have e2:(d.toNat-128+128*Fx (ds++ [x]))/128=Fx (ds++ [x]):=by omega
  rw[e1,e2,B4,R3];rw[ih];constructor
  ·rintro⟨_,h⟩ ⟨h3,_⟩;refine h ⟨h3,?_⟩;rintro rfl;apply h0;simp[Fx,h3]
  intro h;exact⟨rfl,λh3=>h ⟨h3.1,by simp⟩⟩
theorem oO:∀(n:Nat),(Cs n).length<=n+1
 |n=>by
  by_cases h:n<=127
  ·rw[JQ h];simp
  have:=oO<|n/128;rw[SA h,A7];omega
termination_by n=>n
decreasing_by omega
theorem gM {body:Int×List Int->Option ((Int×List Int)⊕(Int×List Int))} (hb:∀n a,body (n,a)=bif decide (n>127)then((ap 1 a [IntKind.u8.wrap (ad (Int.tmod n 128) 128)]).bind λc=>some (.inl (qu n 128,c)))else some (.inr (n,a))):
  ∀(n:Nat) (a:List Int),a.length+n<=1099511627776->∃(m:Nat) (o:List Int),Ap body ((n:Int),a)=some ((m:Int),o)/\m<=127/\o.length<=a.length+n/\(o++ [(m:Int)]).map (λn=>UInt8.ofNat n.toNat)=a.map (λn=>UInt8.ofNat n.toNat)++Cs n
 |n,a,h=>by
  rw[A0,hb];by_cases hn:n<=127
  ·rw[Af (by omega),Ac];exact⟨n,a,rfl,hn,by omega,by rw[JQ hn];simp⟩
  rw[Ad (by omega),Ae,BS (by simp only[A8];omega),Aa];have e1:Int.tmod (n:Int) 128=((n %128:Nat):Int):=rfl;have e2:qu (n:Int) 128=((n/128:Nat):Int):=by
   unfold qu;rw[show Int.tdiv (n:Int) 128=((n/128:Nat):Int)from Int.ofNat_tdiv n 128|>.symm,Px (by omega)<|by omega]
  have e3:IntKind.u8.wrap (ad (Int.tmod (n:Int) 128) 128)=((n %128+128:Nat):Int):=by
   rw[e1,Cy (by omega) (by omega),IntKind.wrap_u8];omega
  obtain⟨m,o,h1,h2,h3,h4⟩:=gM hb (n/128) (a++ [((n %128+128:Nat):Int)]) (by simp only[Ai,A8];omega);rw[e2,e3];refine⟨m,o,h1,h2,by simp only[Ai,A8]at h3;omega,?_⟩;rw[h4,SA hn,Cn,Ax];rfl
termination_by n=>n
decreasing_by omega
theorem AD1 {s:Int} (h0:0<=s) (h1:s<4294967296):IntKind.u32.wrap (Int.tdiv s 2)=Int.fdiv s (2^(min (1:Int).toNat IntKind.u32.bits)):=by
 have e:(2:Int)^(min (1:Int).toNat IntKind.u32.bits)=2:=by decide
 rw[e,IntKind.wrap_u32,Int.tdiv_eq_ediv_of_nonneg h0,Int.fdiv_eq_ediv_of_nonneg _<|by omega];omega
theorem an1 {s:Int} (h0:0<=s) (h1:s<4294967296):an s 1=Int.tmod s 2:=by
 unfold an;obtain⟨n,rfl⟩:=Cv h0;have:(BitVec.ofInt 32 (n:Int)&&&BitVec.ofInt 32 1).toNat=n %2:=by
  rw[BitVec.toNat_and,BitVec.ofInt_natCast,BitVec.toNat_ofNat];have e1:(BitVec.ofInt 32 1).toNat=1:=by decide
  rw[e1,Nat.and_one_is_mod];omega
 rw[this,IntKind.wrap_u32,Ll<|by omega];omega
theorem ACB (a b:Int):0<=xr a b/\xr a b<4294967296:=by
 unfold xr;rw[IntKind.wrap_u32];omega
theorem f9 {body:S->Option (S⊕β)} (a:σ->Int->S) (mkS':σ->Int->S') (n:Nat) (c:Nat->σ->Prop) (Q:β->Prop) (h1:∀s i,i<n->c i s->(∃s',body (a s (i:Nat))=some (.inl (a s' ((i+1:Nat):Int)))/\body' (mkS' s (i:Nat))=some (.inl (mkS' s' ((i+1:Nat):Int)))/\c (i+1) s')\/∃b,body (a s (i:Nat))=some (.inr b)/\body' (mkS' s (i:Nat))=some (.inr b)/\Q b) (h2:∀s,c n s->∃b,body (a s (n:Nat))=some (.inr b)/\body' (mkS' s (n:Nat))=some (.inr b)/\Q b):∀(k i:Nat) (s:σ),i+k=n->c i s->∃b,Ap body (a s (i:Nat))=some b/\Ap body' (mkS' s (i:Nat))=some b/\Q b
 |0,i,s,hi,hs=>by
  have:i=n:=by omega
  subst this;obtain⟨b,h3,h4,h5⟩:=h2 s hs;exact⟨b,by rw[A0,h3],by rw[A0,h4],h5⟩
 |k+1,i,s,hi,hs=>by
  rcases h1 s i (by omega) hs with⟨s',h3,h4,h5⟩|⟨b,h3,h4,h5⟩
  ·obtain⟨b,h6,h7,h8⟩:=f9 a mkS' n c Q h1 h2 k (i+1) s' (by omega) h5;exact⟨b,by rw[A0,h3];exact h6,by rw[A0,h4];exact h7,h8⟩
  exact⟨b,by rw[A0,h3],by rw[A0,h4],h5⟩
theorem Sj {body:S->Option (S⊕β)} (a:σ->Int->S) (mkS':σ->Int->S') (n:Nat) (c:Nat->σ->Prop) (Q:β->Prop) (h1:∀s i,i<n->c i s->(∃s',body (a s (i:Nat))=some (.inl (a s' ((i+1:Nat):Int)))/\body' (mkS' s (i:Nat))=some (.inl (mkS' s' ((i+1:Nat):Int)))/\c (i+1) s')\/∃b,body (a s (i:Nat))=some (.inr b)/\body' (mkS' s (i:Nat))=some (.inr b)/\Q b) (h2:∀s,c n s->∃b,body (a s (n:Nat))=some (.inr b)/\body' (mkS' s (n:Nat))=some (.inr b)/\Q b) (hs:c 0 s):∃b,Ap body (a s 0)=some b/\Ap body' (mkS' s 0)=some b/\Q b:=
 f9 a mkS' n c Q h1 h2 n 0 s (by omega) hs
theorem WE {body:S->Option (S⊕β)} (φ:S->S') (h:∀s,body' (φ s)=(body s).map (Sum.map φ id)):∀(n:Nat) (s:S),Qs body' n (φ s)=Qs body n s
 |0,_=>rfl
 |n+1,s=>by
  simp only[Qs,h]
  cases body s with
  |none=>rfl
  |some o=>
   cases o with
   |inl s'=>exact WE φ h n s'
   |inr b=>rfl
theorem rD {body:S->Option (S⊕β)} (φ:S->S') (h:∀s,body' (φ s)=(body s).map (Sum.map φ id)) (s:S):Ap body' (φ s)=Ap body s:=by
 have b:∀a,Ap body' (φ s)=some a↔Ap body s=some a:=λa=>by
  rw[HJ,HJ];exact⟨λ⟨n,hn⟩=>⟨n,by rw[<-WE φ h];exact hn⟩,λ⟨n,hn⟩=>⟨n,by rw[WE φ h];exact hn⟩⟩
 cases hx:Ap body s with
 |some a=>exact(b a).2 hx
 |none=>
  cases hy:Ap body' (φ s)with
  |none=>rfl
  |some a=>rw[(b a).1 hy]at hx;cases hx
theorem Uv {body:S->Option (S⊕β)} (φ:S->S') (I:S->Prop) (h:∀s,I s->body' (φ s)=(body s).map (Sum.map φ id)) (hI:∀s s',I s->body s=some (.inl s')->I s'):∀(n:Nat) (s:S),I s->Qs body' n (φ s)=Qs body n s
 |0,_,_=>rfl
 |n+1,s,hs=>by
  simp only[Qs,h s hs]
  cases hb:body s with
  |none=>rfl
  |some o=>
   cases o with
   |inl s'=>exact Uv φ I h hI n s' (hI s s' hs hb)
   |inr b=>rfl
theorem nQ {body:S->Option (S⊕β)} (φ:S->S') (I:S->Prop) (h:∀s,I s->body' (φ s)=(body s).map (Sum.map φ id)) (hI:∀s s',I s->body s=some (.inl s')->I s') (s:S) (hs:I s):Ap body' (φ s)=Ap body s:=by
 have b:∀a,Ap body' (φ s)=some a↔Ap body s=some a:=λa=>by
  rw[HJ,HJ];exact⟨λ⟨n,hn⟩=>⟨n,by rw[<-Uv φ I h hI n s hs];exact hn⟩,λ⟨n,hn⟩=>⟨n,by rw[Uv φ I h hI n s hs];exact hn⟩⟩
 cases hx:Ap body s with
 |some a=>exact(b a).2 hx
 |none=>
  cases hy:Ap body' (φ s)with
  |none=>rfl
  |some a=>rw[(b a).1 hy]at hx;cases hx
theorem wB {s:S} {b:β} {body:S->Option (S⊕β)} (I:S->Prop) (Q:β->Prop) (hI:∀s s',I s->body s=some (.inl s')->I s') (hQ:∀s b,I s->body s=some (.inr b)->Q b) (hs:I s) (h:Ap body s=some b):Q b:=by
 obtain⟨n,hn⟩:=HJ.1 h;clear h
 induction n generalizing s with
 |zero=>cases hn
 |succ n ih=>
  simp only[Qs]at hn;split at hn
  ·cases hn
  ·rename_i s' hb;exact ih (hI s s' hs hb) hn
  rename_i b' hb
  injection hn with hn
  subst hn;exact hQ s b' hs hb
theorem ZW {body':S'->Option (S'⊕β')} {body:S->Option (S⊕β)} (a:σ->Int->S) (mkS':σ->Int->S') (n:Nat) (c:Nat->σ->Prop) (Q:β->β'->Prop) (h1:∀s i,i<n->c i s->(∃s',body (a s (i:Nat))=some (.inl (a s' ((i+1:Nat):Int)))/\body' (mkS' s (i:Nat))=some (.inl (mkS' s' ((i+1:Nat):Int)))/\c (i+1) s')\/∃b b',body (a s (i:Nat))=some (.inr b)/\body' (mkS' s (i:Nat))=some (.inr b')/\Q b b') (h2:∀s,c n s->∃b b',body (a s (n:Nat))=some (.inr b)/\body' (mkS' s (n:Nat))=some (.inr b')/\Q b b'):∀(k i:Nat) (s:σ),i+k=n->c i s->∃b b',Ap body (a s (i:Nat))=some b/\Ap body' (mkS' s (i:Nat))=some b'/\Q b b'
 |0,i,s,hi,hs=>by
  have:i=n:=by omega
  subst this;obtain⟨b,b',h3,h4,h5⟩:=h2 s hs;exact⟨b,b',by rw[A0,h3],by rw[A0,h4],h5⟩
 |k+1,i,s,hi,hs=>by
  rcases h1 s i (by omega) hs with⟨s',h3,h4,h5⟩|⟨b,b',h3,h4,h5⟩
  ·obtain⟨b,b',h6,h7,h8⟩:=ZW a mkS' n c Q h1 h2 k (i+1) s' (by omega) h5;exact⟨b,b',by rw[A0,h3];exact h6,by rw[A0,h4];exact h7,h8⟩
  exact⟨b,b',by rw[A0,h3],by rw[A0,h4],h5⟩
theorem f8 {body':S'->Option (S'⊕β')} {body:S->Option (S⊕β)} (a:σ->Int->S) (mkS':σ->Int->S') (n:Nat) (c:Nat->σ->Prop) (Q:β->β'->Prop) (h1:∀s i,i<n->c i s->(∃s',body (a s (i:Nat))=some (.inl (a s' ((i+1:Nat):Int)))/\body' (mkS' s (i:Nat))=some (.inl (mkS' s' ((i+1:Nat):Int)))/\c (i+1) s')\/∃b b',body (a s (i:Nat))=some (.inr b)/\body' (mkS' s (i:Nat))=some (.inr b')/\Q b b') (h2:∀s,c n s->∃b b',body (a s (n:Nat))=some (.inr b)/\body' (mkS' s (n:Nat))=some (.inr b')/\Q b b') (hs:c 0 s):∃b b',Ap body (a s 0)=some b/\Ap body' (mkS' s 0)=some b'/\Q b b':=
 ZW a mkS' n c Q h1 h2 n 0 s (by omega) hs
theorem Tc {body body':S->Option (S⊕β)} (m:S->Nat) (a:S->Prop) (Q:β->Prop) (h:∀s,a s->(∃s',body s=some (.inl s')/\body' s=some (.inl s')/\a s'/\m s'<m s)\/∃b,body s=some (.inr b)/\body' s=some (.inr b)/\Q b):∀(n:Nat) (s:S),m s<=n->a s->∃b,Ap body s=some b/\Ap body' s=some b/\Q b
 |n,s,hn,hs=>by
  rcases h s hs with⟨s',h1,h2,h3,h4⟩|⟨b,h1,h2,h3⟩
  ·cases n with
   |zero=>omega
   |succ n=>
    obtain⟨b,h5,h6,h7⟩:=Tc m a Q h n s' (by omega) h3;exact⟨b,by rw[A0,h1];exact h5,by rw[A0,h2];exact h6,h7⟩
  exact⟨b,by rw[A0,h1],by rw[A0,h2],h3⟩
theorem P3 (z:α->Nat):∀(l:List α) (i:Nat) (h:i<l.length),((l.take (i+1)).map z).sum=((l.take i).map z).sum+z l[i]
 |[],i,h=>by simp at h
 |x::l,0,h=>by simp
 |x::l,i+1,h=>by
  simp only[MT,BJ,FI,List.getElem_cons_succ];rw[P3 z l i (by simpa using h)];omega
theorem Mq (z:α->Nat) (l:List α) (i:Nat):((l.take i).map z).sum<=(l.map z).sum:=by
 have:(l.map z).sum=((l.take i).map z).sum+((l.drop i).map z).sum:=by
  rw[<-List.sum_append,<-Cn,Ch]
 omega
theorem kP (a:List α) (x:α) (post:List α):gi (a++x::post) (a.length:Nat)=some x:=by
 rw[Aw,Bp<|Au _];simp
theorem iG (a:List α) (x y:α) (post:List α):si (a++x::post) (a.length:Nat) y=a++y::post:=by
 rw[EX,List.set_append_right _ _<|Au _];simp
noncomputable section
def Ei (lt:γ->γ->Bool) (xA:Int) (xB:Int) (xN:Int) (a:Int) (b:List γ):Option ((Int×List γ)⊕(List γ)):=cond (decide<|a<xN) ((pW b (ad xA a)<|ad xB a).bind λv1=>some<|.inl (ad a 1,v1))<|some<|.inr b
def Dk (lt:γ->γ->Bool) (xL:List γ) (xA:Int) (xB:Int) (xN:Int):Option (List γ):=(Ap (λs:Int×List γ=>Ei lt xA xB xN s.1 s.2) (0,xL)).bind λv2=>some v2
def Fg (lt:γ->γ->Bool) (xM:Int) (a:Int) (b:Int) (c:List γ):Option ((Int×Int×List γ)⊕(Int×List γ)):=cond (a !=b) (cond (decide<|a>b) ((Dk lt c (sb xM a) xM b).bind λv1=>some<|.inl (sb a b,b,v1))<|(Dk lt c (sb xM a) (sb (ad xM b) a) a).bind λv2=>some<|.inl (a,sb b a,v2))<|some<|.inr (a,c)
def Fz (lt:γ->γ->Bool) (xL:List γ) (xA:Int) (xM:Int) (xB:Int):Option (List γ):=(Ap (λs:Int×Int×List γ=>Fg lt xM s.1 s.2.1 s.2.2) (sb xM xA,sb xB xM,xL)).bind λv3=>(Dk lt v3.2 (sb xM v3.1) xM v3.1).bind λv4=>some v4
def Bn (lt:γ->γ->Bool) (xA:Int) (a:Int) (b:List γ):Option ((Int×List γ)⊕(List γ)):=(cond (decide<|a>xA) ((xY b a<|sb a 1).bind λv1=>some<|lt v1.1 v1.2) (some false):Option Bool).bind λj1=>cond j1 ((pW b a<|sb a 1).bind λv2=>some<|.inl (sb a 1,v2))<|some<|.inr b
def Bt (lt:γ->γ->Bool) (xA:Int) (xB:Int) (a:Int) (b:List γ):Option ((Int×List γ)⊕(List γ)):=cond (decide<|a<xB) ((Ap (λs:Int×List γ=>Bn lt xA s.1 s.2) (a,b)).bind λv3=>some<|.inl (ad a 1,v3))<|some<|.inr b
def BG (lt:γ->γ->Bool) (xL:List γ) (xA:Int) (xB:Int):Option (List γ):=(Ap (λs:Int×List γ=>Bt lt xA xB s.1 s.2) (ad xA 1,xL)).bind λv4=>some v4
def E4 (lt:γ->γ->Bool) (xL:List γ) (xA:Int) (a:Int) (b:Int):Option ((Int×Int)⊕Int):=cond (decide<|a<b) ((xY xL (IntKind.i64.wrap<|Int.fdiv (IntKind.u64.wrap<|ad a b)<|2^(min (1:Int).toNat IntKind.u64.bits)) xA).bind λv1=>cond (lt v1.1 v1.2) (some<|.inl (ad (IntKind.i64.wrap<|Int.fdiv (IntKind.u64.wrap<|ad a b)<|2^(min (1:Int).toNat IntKind.u64.bits)) 1,b))<|some<|.inl (a,IntKind.i64.wrap<|Int.fdiv (IntKind.u64.wrap<|ad a b)<|2^(min (1:Int).toNat IntKind.u64.bits)))<|some<|.inr a
def DG (lt:γ->γ->Bool) (v2:Int) (a:Int) (b:List γ):Option ((Int×List γ)⊕(List γ)):=cond (decide<|a<(sb v2 1)) ((pW b a<|ad a 1).bind λv3=>some<|.inl (ad a 1,v3))<|some<|.inr b
def E0 (lt:γ->γ->Bool) (xL:List γ) (xM:Int) (a:Int) (b:Int):Option ((Int×Int)⊕Int):=cond (decide<|a<b) ((xY xL xM<|IntKind.i64.wrap<|Int.fdiv (IntKind.u64.wrap<|ad a b)<|2^(min (1:Int).toNat IntKind.u64.bits)).bind λv5=>cond (!(lt v5.1 v5.2)) (some<|.inl (ad (IntKind.i64.wrap<|Int.fdiv (IntKind.u64.wrap<|ad a b)<|2^(min (1:Int).toNat IntKind.u64.bits)) 1,b))<|some<|.inl (a,IntKind.i64.wrap<|Int.fdiv (IntKind.u64.wrap<|ad a b)<|2^(min (1:Int).toNat IntKind.u64.bits)))<|some<|.inr a
def DF (lt:γ->γ->Bool) (v6:Int) (a:Int) (b:List γ):Option ((Int×List γ)⊕(List γ)):=cond (decide<|a>v6) ((pW b a<|sb a 1).bind λv7=>some<|.inl (sb a 1,v7))<|some<|.inr b
def Ez (lt:γ->γ->Bool) (xL:List γ) (xA:Int) (xM:Int) (xB:Int) (a:Int) (b:Int):Option ((Int×Int)⊕Int):=cond (decide<|a<b) ((xY xL (sb (sb (ad (IntKind.i64.wrap<|Int.fdiv (IntKind.u64.wrap<|ad xA xB)<|2^(min (1:Int).toNat IntKind.u64.bits)) xM) 1)<|IntKind.i64.wrap<|Int.fdiv (IntKind.u64.wrap<|ad a b)<|2^(min (1:Int).toNat IntKind.u64.bits))<|IntKind.i64.wrap<|Int.fdiv (IntKind.u64.wrap<|ad a b)<|2^(min (1:Int).toNat IntKind.u64.bits)).bind λv9=>cond (!(lt v9.1 v9.2)) (some<|.inl (ad (IntKind.i64.wrap<|Int.fdiv (IntKind.u64.wrap<|ad a b)<|2^(min (1:Int).toNat IntKind.u64.bits)) 1,b))<|some<|.inl (a,IntKind.i64.wrap<|Int.fdiv (IntKind.u64.wrap<|ad a b)<|2^(min (1:Int).toNat IntKind.u64.bits)))<|some<|.inr a
def CI (lt:γ->γ->Bool):Nat->(List γ)->Int->Int->Int->Option (List γ)
 |0,_,_,_,_=>none
 |n+1,xL,xA,xM,xB=>cond ((sb xM xA)==1) ((Ap (λs:Int×Int=>E4 lt xL xA s.1 s.2) (xM,xB)).bind λv2=>(Ap (λs:Int×List γ=>DG lt v2 s.1 s.2) (xA,xL)).bind λv4=>some v4) (cond ((sb xB xM)==1) ((Ap (λs:Int×Int=>E0 lt xL xM s.1 s.2) (xA,xM)).bind λv6=>(Ap (λs:Int×List γ=>DF lt v6 s.1 s.2) (xM,xL)).bind λv8=>some v8) ((cond (decide (xM>(IntKind.i64.wrap (Int.fdiv (IntKind.u64.wrap (ad xA xB)) (2^(min (1:Int).toNat IntKind.u64.bits)))))) (some (sb (ad (IntKind.i64.wrap (Int.fdiv (IntKind.u64.wrap (ad xA xB)) (2^(min (1:Int).toNat IntKind.u64.bits)))) xM) xB,IntKind.i64.wrap (Int.fdiv (IntKind.u64.wrap (ad xA xB)) (2^(min (1:Int).toNat IntKind.u64.bits))))) (some (xA,xM)):Option (Int×Int)).bind λj1=>(Ap (λs:Int×Int=>Ez lt xL xA xM xB s.1 s.2) (j1.1,j1.2)).bind λv10=>(cond (decide (v10<xM)) (some (decide (xM<(sb (ad (IntKind.i64.wrap (Int.fdiv (IntKind.u64.wrap (ad xA xB)) (2^(min (1:Int).toNat IntKind.u64.bits)))) xM) v10)))) (some false):Option Bool).bind λj2=>(cond j2 ((Fz lt xL v10 xM (sb (ad (IntKind.i64.wrap (Int.fdiv (IntKind.u64.wrap (ad xA xB)) (2^(min (1:Int).toNat IntKind.u64.bits)))) xM) v10)).bind λv11=>some v11) (some xL):Option (List γ)).bind λj3=>(cond (decide (xA<v10)) (some (decide (v10<(IntKind.i64.wrap (Int.fdiv (IntKind.u64.wrap (ad xA xB)) (2^(min (1:Int).toNat IntKind.u64.bits))))))) (some false):Option Bool).bind λj4=>(cond j4 ((CI lt n j3 xA v10 (IntKind.i64.wrap (Int.fdiv (IntKind.u64.wrap (ad xA xB)) (2^(min (1:Int).toNat IntKind.u64.bits))))).bind λv12=>some v12) (some j3):Option (List γ)).bind λj5=>cond (decide ((IntKind.i64.wrap (Int.fdiv (IntKind.u64.wrap (ad xA xB)) (2^(min (1:Int).toNat IntKind.u64.bits))))<(sb (ad (IntKind.i64.wrap (Int.fdiv (IntKind.u64.wrap (ad xA xB)) (2^(min (1:Int).toNat IntKind.u64.bits)))) xM) v10))) (cond (decide ((sb (ad (IntKind.i64.wrap (Int.fdiv (IntKind.u64.wrap (ad xA xB)) (2^(min (1:Int).toNat IntKind.u64.bits)))) xM) v10)<xB)) ((CI lt n j5 (IntKind.i64.wrap (Int.fdiv (IntKind.u64.wrap (ad xA xB)) (2^(min (1:Int).toNat IntKind.u64.bits)))) (sb (ad (IntKind.i64.wrap (Int.fdiv (IntKind.u64.wrap (ad xA xB)) (2^(min (1:Int).toNat IntKind.u64.bits)))) xM) v10) xB).bind λv13=>some v13) (some j5)) (some j5)))
def Dl (lt:γ->γ->Bool) (xN:Int) (b:Int) (a:Int) (c:List γ):Option ((Int×Int×List γ)⊕(Int×List γ)):=cond (decide<|a<=xN) ((BG lt c b a).bind λv1=>some<|.inl (a,ad a 20,v1))<|some<|.inr (b,c)
def D8 (lt:γ->γ->Bool) (xN:Int) (a:Int) (c:Int) (b:Int) (d:List γ):Option ((Int×Int×List γ)⊕(Int×List γ)):=cond (decide<|b<=xN) ((CI lt (List.length d+1) d c (ad c a) b).bind λv4=>some<|.inl (b,ad b<|ml 2 a,v4))<|some<|.inr (c,d)
def D9 (lt:γ->γ->Bool) (xN:Int) (a:Int) (b:List γ):Option ((Int×List γ)⊕(List γ)):=cond (decide<|a<xN) ((Ap (λs:Int×Int×List γ=>D8 lt xN a s.1 s.2.1 s.2.2) (0,ml 2 a,b)).bind λv5=>cond (decide<|(ad v5.1 a)<xN) ((CI lt (List.length v5.2+1) v5.2 v5.1 (ad v5.1 a) xN).bind λv6=>some<|.inl (ml a 2,v6))<|some<|.inl (ml a 2,v5.2))<|some<|.inr b
def Dz (lt:γ->γ->Bool) (xL:List γ) (xN:Int):Option (List γ):=(Ap (λs:Int×Int×List γ=>Dl lt xN s.1 s.2.1 s.2.2) (0,20,xL)).bind λv2=>(BG lt v2.2 v2.1 xN).bind λv3=>(Ap (λs:Int×List γ=>D9 lt xN s.1 s.2) (20,v3)).bind λv7=>some v7
def ZV (xX:Int):Option Int:=(cond (decide<|xX>=4294967296) (some (Int.fdiv xX<|2^(min (32:Int).toNat IntKind.u64.bits),32)) (some (xX,0)):Option (Int×Int)).bind λj1=>(cond (decide<|j1.1>=65536) (some (Int.fdiv j1.1<|2^(min (16:Int).toNat IntKind.u64.bits),ad j1.2 16)) (some (j1.1,j1.2)):Option (Int×Int)).bind λj2=>(cond (decide<|j2.1>=256) (some (Int.fdiv j2.1<|2^(min (8:Int).toNat IntKind.u64.bits),ad j2.2 8)) (some (j2.1,j2.2)):Option (Int×Int)).bind λj3=>(sx (bs [0,1,2,2,3,3,3,3,4,4,4,4,4,4,4,4,5,5,5,5,5,5,5,5,5,5,5,5,5,5,5,5,6,6,6,6,6,6,6,6,6,6,6,6,6,6,6,6,6,6,6,6,6,6,6,6,6,6,6,6,6,6,6,6,7,7,7,7,7,7,7,7,7,7,7,7,7,7,7,7,7,7,7,7,7,7,7,7,7,7,7,7,7,7,7,7,7,7,7,7,7,7,7,7,7,7,7,7,7,7,7,7,7,7,7,7,7,7,7,7,7,7,7,7,7,7,7,7,8,8,8,8,8,8,8,8,8,8,8,8,8,8,8,8,8,8,8,8,8,8,8,8,8,8,8,8,8,8,8,8,8,8,8,8,8,8,8,8,8,8,8,8,8,8,8,8,8,8,8,8,8,8,8,8,8,8,8,8,8,8,8,8,8,8,8,8,8,8,8,8,8,8,8,8,8,8,8,8,8,8,8,8,8,8,8,8,8,8,8,8,8,8,8,8,8,8,8,8,8,8,8,8,8,8,8,8,8,8,8,8,8,8,8,8,8,8,8,8,8,8,8,8,8,8,8,8])<|IntKind.u8.wrap j3.1).bind λx1=>some<|ad j3.2<|IntKind.i64.wrap x1
def WL (xX:Int):Option Int:=(ZV xX).bind λv1=>some v1
def Gm (lt:γ->γ->Bool) (xL:List γ) (xA:Int) (xB:Int):Option (Unit⊕Unit⊕(List γ)):=cond (decide<|(sb xB xA)<=12) ((BG lt xL xA xB).bind λv1=>some<|.inr<|.inr v1) none
def EW (lt:γ->γ->Bool) (xL:List γ) (xA:Int) (xB:Int) (a:Int):Option (List γ):=(Ap (λ_:Unit=>Gm lt xL xA xB) ()).bind<|Sum.elim (λv2=>some xL) some
def Lu (lt:γ->γ->Bool) (l:List γ):Option (List γ):=(WL<|IntKind.u64.wrap<|ln l).bind λv=>EW lt l 0 (ln l) v
end
def srt (a:γ->Int) (l:List γ):Prop:=l.Pairwise λx y=>a x<=a y
section
variable (key:γ->Int)
def BW (l r:List γ):Prop:=∀k,r.filter (λx=>key x==k)=l.filter (λx=>key x==k)
end
theorem BW.refl (a:γ->Int) (l:List γ):BW a l l:=λ_=>rfl
theorem BW.trans (d:γ->Int) {c:List γ} (h:BW d a b) (k:BW d b c):BW d a c:=λx=>(k x).trans<|h x
theorem GQ (e:γ->Int) {c d:List γ} (h:BW e a b) (k:BW e c d):BW e (a++c) (b++d):=λx=>by rw[AN,AN,h,k]
section
variable (key:γ->Int)
theorem BW.mem {x:γ} (h:BW key a b):x∈b↔x∈a:=by
 have:=h<|key x;have e:x∈b.filter (λy=>key y==key x)↔x∈a.filter (λy=>key y==key x):=by rw[this]
 simpa using e
end
section
variable (key:γ->Int)
theorem BW.nil (h:BW key [] b):b=[]:=by
 cases b with
 |nil=>rfl
 |cons x b=>exact absurd ((h.mem (x:=x)).1 CY)<|by simp
end
section
variable (key:γ->Int)
theorem BW.swap (h:∀x∈a,∀y∈b,key y<key x):BW key (a++b) (b++a):=by
 intro k;rw[AN,AN];by_cases ha:a.filter (λx=>key x==k)=[]
 ·rw[ha];simp
 have hb:b.filter (λx=>key x==k)=[]:=by
  rw[Bq];intro y hy e;obtain⟨x,hx⟩:=List.exists_mem_of_ne_nil _ ha
  grind
 rw[hb];simp
end
theorem UE (p:γ->Bool):∀l:List γ,l.length=(l.filter p).length+(l.filter λx=>!p x).length
 |[]=>rfl
 |x::l=>by
  have:=UE p l
  grind
section
variable (key:γ->Int)
theorem BW.len:BW key a b->a.length=b.length:=by
 intro h;have:∀(n:Nat) (a b:List γ),a.length<=n->BW key a b->a.length=b.length:=by
  intro n
  induction n with
  |zero=>
   intro a b ha h;have:a=[]:=AG (by omega);subst this;rw[h.nil]
  |succ n ih=>
   intro a b ha h
   cases a with
   |nil=>rw[h.nil]
   |cons x a=>
    have hp:(x::a).length=((x::a).filter λy=>key y==key x).length+((x::a).filter λy=>!(key y==key x)).length:=by
     exact UE _ _
    have c:b.length=(b.filter λy=>key y==key x).length+(b.filter λy=>!(key y==key x)).length:=by
     exact UE _ _
    have h1:BW key ((x::a).filter λy=>!(key y==key x)) (b.filter λy=>!(key y==key x)):=by
     intro k;rw[E6,E6];by_cases hk:k=key x
     ·subst hk
      have z:∀l:List γ,l.filter (λy=>(key y==key x)&&!(key y==key x))=[]:=λl=>by simp
      rw[z,z]
     have z:∀l:List γ,l.filter (λy=>(key y==k)&&!(key y==key x))=l.filter (λy=>key y==k):=λl=>by grind
     rw[z,z];exact h k
    have h2:=ih _ _ (by grind) h1;rw[hp,c,h2,h<|key x]
 exact this a.length a b (Au _) h
end
section
variable (key:γ->Int)
theorem NP:∀{a b:List γ},srt key a->srt key b->BW key a b->a=b
 |[],b,_,_,h=>(h.nil key).symm
 |x::a,[],_,_,h=>by
  have:=h.len key;simp at this
 |x::a,y::b,ha,hb,h=>by
  have c:key x=key y:=by
   have h1:x∈y::b:=(h.mem key).2 CY;have h2:y∈x::a:=(h.mem key).1 CY;have k1:key y<=key x:=by
    rcases CO.1 h1 with rfl|h1
    ·exact GO _
    exact(C0.1 hb).1 x h1
   have k2:key x<=key y:=by
    rcases CO.1 h2 with rfl|h2
    ·exact GO _
    exact(C0.1 ha).1 y h2
   omega
  have e:=h<|key x;rw[CM (by simp[c]),CM<|by simp]at e
  injection e with e1 e2
  subst e1;have h':BW key a b:=by
   intro k;have:=h k
   grind
  rw[NP (C0.1 ha).2 (C0.1 hb).2 h']
end
theorem S4 (P S:List γ) (x:γ):gi (P++x::S) (P.length:Nat)=some x:=by
 rw[Aw,Bp<|Au _];simp
theorem iH (P S:List γ) (x y:γ):si (P++x::S) (P.length:Nat) y=P++y::S:=by
 rw[EX];simp
theorem tH (P M S:List γ) (x y:γ):pW (P++x::(M++y::S)) (P.length:Nat) ((P.length+1+M.length:Nat):Int)=some (P++y::(M++x::S)):=by
 unfold pW;have e:P++x::(M++y::S)=(P++x::M)++y::S:=by simp
 have e2:P++y::(M++y::S)=(P++y::M)++y::S:=by simp
 have hl:(P.length+1+M.length)=(P++x::M).length:=by simp;omega
 have a:(P.length+1+M.length)=(P++y::M).length:=by simp;omega
 rw[S4,Aa];have h2:gi (P++x::(M++y::S)) ((P.length+1+M.length:Nat):Int)=some y:=by rw[e,hl,S4]
 rw[h2,Aa,iH,e2,a,iH];simp
theorem tI (P S:List γ) (x y:γ):pW (P++x::y::S) ((P.length+1:Nat):Int) (P.length:Nat)=some (P++y::x::S):=by
 unfold pW;have e:P++x::y::S=(P++ [x])++y::S:=by simp
 have e2:P++x::x::S=P++x::(x::S):=rfl;have hl:(P.length+1)=(P++ [x]).length:=by simp
 have h1:gi (P++x::y::S) ((P.length+1:Nat):Int)=some y:=by rw[e,hl,S4]
 rw[h1,Aa,S4,Aa];have h3:si (P++x::y::S) ((P.length+1:Nat):Int) x=P++x::x::S:=by rw[e,hl,iH];simp
 rw[h3,iH]
theorem yK (P S:List γ) (x y:γ):pW (P++x::y::S) (P.length:Nat) ((P.length+1:Nat):Int)=some (P++y::x::S):=by
 have:=tH P [] S x y;simpa using this
theorem Qh:∀(X Y P M S:List γ),X.length=Y.length->P.length+X.length+M.length+Y.length+S.length<=1152921504606846976->
  Dk lt (P++X++M++Y++S) (P.length:Nat) ((P.length+X.length+M.length:Nat):Int) (X.length:Nat)=some (P++Y++M++X++S):=by
 have d:∀(n:Nat) (X Y P M S:List γ) (a b c i:Nat),X.length=n->Y.length=n->a+i=P.length->b+i=P.length+n+M.length->c=i+n->P.length+n+M.length+n+S.length<=1152921504606846976->
   Ap (λs:Int×List γ=>Ei lt (a:Int) (b:Int) (c:Int) s.1 s.2) ((i:Int),P++X++M++Y++S)=some (P++Y++M++X++S):=by
  intro n
  induction n with
  |zero=>
   intro X Y P M S a b c i hX hY h1 h2 h3 hN;have:=AG hX;subst this;have:=AG hY;subst this;rw[A0];simp only[Ei]
   grind
  |succ n ih=>
   intro X Y P M S a b c i hX hY h1 h2 h3 hN
   cases X with
   |nil=>simp at hX
   |cons x X=>
   cases Y with
   |nil=>simp at hY
   |cons y Y=>
   simp only[A7]at hX hY;have hs:pW (P++(x::X)++M++(y::Y)++S) (ad (a:Int) (i:Int)) (ad (b:Int) (i:Int))=some (P++(y::X)++M++(x::Y)++S):=by
    have e1:ad (a:Int) (i:Int)=(P.length:Nat):=by rw[Cy (by omega)<|by omega];omega
    have e2:ad (b:Int) (i:Int)=((P.length+1+(X++M).length:Nat):Int):=by rw[Cy (by omega)<|by omega];simp only[Ai];omega
    have:=tH P (X++M) (Y++S) x y;rw[e1,e2];simpa using this
   rw[A0];simp only[Ei];rw[Ad (by omega:(i:Int)<c),Ae,hs,Aa,ad1<|by omega];have:=ih X Y (P++ [y]) (M++ [x]) S a b c (i+1) (by omega) (by omega) (by simp;omega) (by simp;omega) (by omega) (by simp;omega);simp only[Ax,B4,A4,D6]at this⊢;exact this
 intro X Y P M S e hN;unfold Dk;have:=d X.length X Y P M S P.length (P.length+X.length+M.length) X.length 0 rfl e.symm (by omega) (by omega) (by omega) (by omega);rw[show((0:Nat):Int)=0 from rfl]at this;rw[this];rfl
theorem vN (P A B S:List γ) (hA:A≠ []) (hB:B≠ []) (hN:P.length+A.length+B.length+S.length<=1152921504606846976):
  Fz lt (P++A++B++S) (P.length:Nat) ((P.length+A.length:Nat):Int) ((P.length+A.length+B.length:Nat):Int)=some (P++B++A++S):=by
 have g:∀(m:Nat) (Bd:Int×Int×List γ->Option ((Int×Int×List γ)⊕(Int×List γ))) (d:∀i j l,Bd (i,j,l)=Fg lt (m:Int) i j l) (k:Nat) (P U V S:List γ),U.length+V.length<=k->U≠ []->V≠ []->P.length+U.length=m->P.length+U.length+V.length+S.length<=1152921504606846976->
   ((
    Ap Bd ((U.length:Int),(V.length:Int),P++U++V++S)).bind λv3=>
    (Dk lt v3.2 (sb (m:Int) v3.1) (m:Int) v3.1).bind λv4=>some v4)=some (P++V++U++S):=by
  intro m Bd d k
  induction k with
  |zero=>
   intro P U V S hk hU;exact absurd (AG<|by omega) hU
  |succ k ih=>
   intro P U V S hk hU hV hm hN;have lU:=MU.2 hU;have lV:=MU.2 hV;rw[A0];simp only[d,Fg];have c:sb (m:Int) (U.length:Int)=(P.length:Nat):=by rw[Cm (by omega)<|by omega];omega
   by_cases f:U.length=V.length
   ·have e:((U.length:Int) !=(V.length:Int))=false:=by simp[f]
    rw[e,Ac];simp only[Aa];rw[c];have:=Qh (lt:=lt) U V P [] S f (by simp;omega);simp only[A3,BU,HT]at this;rw[hm]at this;rw[this];rfl
   have e:((U.length:Int) !=(V.length:Int))=true:=by simp;omega
   rw[e,Ae];by_cases n:U.length>V.length
   ·rw[Ad (by omega:(U.length:Int)>V.length),Ae,c];have h:U=U.take V.length++U.drop V.length:=(Ch _ _).symm;have b:(U.take V.length).length=V.length:=by simp;omega
    have a:(U.drop V.length).length=U.length-V.length:=by simp
    have:=Qh (lt:=lt) (U.take V.length) V P (U.drop V.length) S b (by rw[b,a];omega);rw[b,a,show P.length+V.length+(U.length-V.length)=m by omega]at this;have e3:P++U++V++S=P++U.take V.length++U.drop V.length++V++S:=by grind
    rw[e3,this,Aa];have e4:sb (U.length:Int) (V.length:Int)=((U.drop V.length).length:Int):=by rw[Cm (by omega) (by omega),a];omega
    have:=ih (P++V) (U.drop V.length) (U.take V.length) S (by rw[b,a];omega) (by grind) (by grind) (by grind)<|by grind
    grind
   rw[Af (by omega:¬(U.length:Int)>V.length),Ac,c];have b:(V.take<|V.length-U.length).length=V.length-U.length:=by simp
   have a:(V.drop<|V.length-U.length).length=U.length:=by simp;omega
   have:=Qh (lt:=lt) U (V.drop<|V.length-U.length) P (V.take<|V.length-U.length) S a.symm (by rw[b,a];omega);rw[b]at this;have e2:sb (ad (m:Int) (V.length:Int)) (U.length:Int)=((P.length+U.length+(V.length-U.length):Nat):Int):=by rw[Cy (by omega) (by omega),Cm (by omega)<|by omega];omega
   have e3:P++U++V++S=P++U++V.take (V.length-U.length)++V.drop (V.length-U.length)++S:=by simp
   rw[e2,e3,this,Aa];have e4:sb (V.length:Int) (U.length:Int)=((V.take<|V.length-U.length).length:Int):=by rw[Cm (by omega) (by omega),b];omega
   have:=ih P (V.drop<|V.length-U.length) (V.take<|V.length-U.length) (U++S) (by rw[b,a];omega) (by grind) (by grind) (by rw[a];omega) (by grind);rw[a]at this;rw[e4];simp only[Ax]at this⊢;rw[this];rw[show V.take (V.length-U.length)++(V.drop (V.length-U.length)++(U++S))=V++(U++S) by rw[<-Ax,Ch]]
 have h1:sb ((P.length+A.length:Nat):Int) (P.length:Nat)=(A.length:Int):=by rw[Cm (by omega)<|by omega];omega
 have h2:sb ((P.length+A.length+B.length:Nat):Int) ((P.length+A.length:Nat):Int)=(B.length:Int):=by rw[Cm (by omega)<|by omega];omega
 unfold Fz;rw[h1,h2];exact g (P.length+A.length) (λs=>Fg lt ((P.length+A.length:Nat):Int) s.1 s.2.1 s.2.2) (λ_ _ _=>rfl) _ P A B S (Au _) hA hB rfl hN
def Nw (a:γ->Int) (x y:γ):Bool:=decide<|a x<a y
theorem wI (a:γ->Int) (P S:List γ) (y:γ) (B:Int×List γ->Option ((Int×List γ)⊕(List γ))) (hB:∀j l,B (j,l)=Bn (Nw a) (P.length:Nat) j l):∀(n:Nat) (U V:List γ),U.length=n->srt a U->P.length+U.length+V.length+S.length<=1152921504606846976->
  ∃U1 U2,U=U1++U2/\Ap B (((P.length+U.length:Nat):Int),P++U++y::(V++S))=some (P++U1++y::(U2++V++S))/\(∀v∈U2,a y<a v)/\∀u∈U1,a u<=a y:=by
 intro n
 induction n with
 |zero=>
  intro U V hU _ hN;have:=AG hU;subst this;refine⟨[],[],rfl,?_,by simp,by simp⟩;rw[A0,hB];simp only[Bn]
  grind
 |succ n ih=>
  intro U V hU hs hN
  rcases Hr U with rfl|⟨U0,z,rfl⟩
  ·simp at hU
  rw[Hs]at hU hs hN⊢;simp only[Ai,A8]at hU hN;have hl:P.length+(U0++ [z]).length=(P++U0).length+1:=by simp;omega
  have e0:P++(U0++ [z])++y::(V++S)=(P++U0)++z::y::(V++S):=by simp
  have ej:sb (((P++U0).length+1:Nat):Int) 1=((P++U0).length:Nat):=by rw[Cm (by omega)<|by grind];omega
  have g1:gi ((P++U0)++z::y::(V++S)) (((P++U0).length+1:Nat):Int)=some y:=by
   have e:(P++U0)++z::y::(V++S)=((P++U0)++ [z])++y::(V++S):=by simp
   have hl':(P++U0).length+1=((P++U0)++ [z]).length:=by grind
   rw[e,hl',S4]
  have g2:xY ((P++U0)++z::y::(V++S)) (((P++U0).length+1:Nat):Int) ((P++U0).length:Nat)=some (y,z):=by
   unfold xY;rw[g1,Aa,S4];rfl
  by_cases b:a y<a z
  ·obtain⟨U1,U2,h1,h2,h3,h4⟩:=ih U0 (z::V) (by omega) (AQ.1 hs).1 (by grind);refine⟨U1,U2++ [z],by rw[h1];simp,?_,?_,h4⟩
   ·rw[A0,hB];simp only[Bn];rw[hl,e0,Ad (by grind:(((P++U0).length+1:Nat):Int)>(P.length:Nat)),Ae,ej,g2];simp only[Aa,Nw];rw[Ad b,Ae,tI,Aa];simp only;have:P++U0++y::z::(V++S)=P++U0++y::(z::V++S):=by simp
    rw[this,show(P++U0).length=P.length+U0.length from Ai,h2];simp
   grind
  refine⟨U0++ [z],[],by simp,?_,by simp,?_⟩
  ·rw[A0,hB];simp only[Bn];rw[hl,e0,Ad (by grind:(((P++U0).length+1:Nat):Int)>(P.length:Nat)),Ae,ej,g2];simp only[Aa,Nw]
   grind
  intro u hu
  rcases Ak.1 hu with hu|hu
  ·have:=(AQ.1 hs).2.2 u hu z (by simp);omega
  grind
section
variable (key:γ->Int)
theorem Jc (P X S:List γ) (hN:P.length+X.length+S.length<=1152921504606846976):
  ∃X',BG (Nw key) (P++X++S) (P.length:Nat) ((P.length+X.length:Nat):Int)=some (P++X'++S)/\srt key X'/\BW key X X':=by
 have main:∀(b:Nat) (B:Int×List γ->Option ((Int×List γ)⊕(List γ))),(∀i l,B (i,l)=Bt (Nw key) (P.length:Nat) (b:Int) i l)->∀(n:Nat) (U V:List γ),V.length=n->P.length+U.length+V.length=b->srt key U->b+S.length<=1152921504606846976->
   ∃X',Ap B (((P.length+U.length:Nat):Int),P++U++V++S)=some (P++X'++S)/\srt key X'/\BW key (U++V) X':=by
  intro b B hB n
  induction n with
  |zero=>
   intro U V hV hb hs hN;have:=AG hV;subst this;refine⟨U,?_,hs,by rw[A3];exact BW.refl key U⟩;rw[A0,hB];simp only[Bt]
   grind
  |succ n ih=>
   intro U V hV hb hs hN
   cases V with
   |nil=>simp at hV
   |cons y V=>
    simp only[A7]at hV hb;obtain⟨U1,U2,h1,h2,h3,h4⟩:=wI key P (V++S) y (λs=>Bn (Nw key) (P.length:Nat) s.1 s.2) (λ_ _=>rfl) U.length U [] rfl hs (by simp only[Ai,BU];omega);have hs':srt key (U1++y::U2):=by
     rw[h1]at hs;obtain⟨q1,q2,q3⟩:=AQ.1 hs;refine AQ.2 ⟨q1,C0.2 ⟨λv hv=>s8<|h3 v hv,q2⟩,λu hu v hv=>?_⟩
     grind
    have hk:BW key (U++ [y]) (U1++y::U2):=by
     rw[h1,Ax];have:=BW.swap key (a:=U2) (b:=[y]) (λx hx z hz=>by simp at hz;grind);exact GQ key (BW.refl key U1) this
    have c:(U1++y::U2).length=U.length+1:=by rw[h1];simp;omega
    obtain⟨X',r1,r2,r3⟩:=ih (U1++y::U2) V (by omega) (by rw[c];omega) hs' hN;refine⟨X',?_,r2,?_⟩
    ·rw[A0,hB];simp only[Bt];rw[Ad (by omega:((P.length+U.length:Nat):Int)<(b:Int)),Ae];have e:P++U++y::V++S=P++U++y::([]++(V++S)):=by simp
     rw[e,h2,Aa,ad1<|by omega];simp only;rw[show P.length+U.length+1=P.length+(U1++y::U2).length by rw[c];omega];have e2:P++U1++y::(U2++ []++(V++S))=P++(U1++y::U2)++V++S:=by simp
     rw[e2,r1]
    refine BW.trans key ?_ r3;have e3:U++y::V=(U++ [y])++V:=by simp
    rw[e3];exact GQ key hk<|BW.refl key V
 unfold BG;rw[ad1<|by omega]
 cases X with
 |nil=>
  refine⟨[],?_,List.Pairwise.nil,BW.refl key _⟩;rw[A0];simp only[Bt]
  grind
 |cons x X=>
  obtain⟨X',h1,h2,h3⟩:=main (P.length+(x::X).length) (λs=>Bt (Nw key) (P.length:Nat) ((P.length+(x::X).length:Nat):Int) s.1 s.2) (λ_ _=>rfl) X.length [x] X rfl (by simp;omega) (Jk _ _) (by omega);refine⟨X',?_,h2,h3⟩
  grind
end
def dL (i j:Int):Int:=IntKind.i64.wrap<|Int.fdiv (IntKind.u64.wrap<|ad i j)<|2^(min (1:Int).toNat IntKind.u64.bits)
theorem jQ (i j:Nat) (h:i+j<=4611686018427387904):dL (i:Int) (j:Int)=(((i+j)/2:Nat):Int):=by
 unfold dL;rw[Cy (by omega)<|by omega];have e1:IntKind.u64.wrap ((i:Int)+(j:Int))=((i+j:Nat):Int):=by
  have:IntKind.u64.wrap ((i:Int)+(j:Int))=((i:Int)+(j:Int)) %18446744073709551616:=by rfl
  rw[this];omega
 have e2:(2:Int)^(min (1:Int).toNat IntKind.u64.bits)=2:=by decide
 rw[e1,e2,Int.fdiv_eq_ediv_of_nonneg _ (by omega),Px (by omega)<|by omega];omega
theorem lA {B:Int×Int->Option ((Int×Int)⊕Int)} (p:Nat->Bool) (lo hi:Nat) (h1:∀i j:Nat,lo<=i->i<j->j<=hi->B ((i:Int),(j:Int))=some (.inl (cond (p ((i+j)/2)) ((((i+j)/2+1:Nat):Int),(j:Int)) ((i:Int),(((i+j)/2:Nat):Int))))) (h2:∀i:Nat,B ((i:Int),(i:Int))=some (.inr (i:Int))):
  ∀(n i j:Nat),j-i<=n->lo<=i->i<=j->j<=hi->(lo<i->p (i-1)=true)->(j<hi->p j=false)->∃r:Nat,Ap B ((i:Int),(j:Int))=some (r:Int)/\lo<=r/\r<=hi/\(lo<r->p (r-1)=true)/\(r<hi->p r=false):=by
 intro n
 induction n with
 |zero=>
  intro i j hn hl a hh k1 k2;have:i=j:=by omega
  subst this;exact⟨i,by rw[A0,h2],hl,hh,k1,k2⟩
 |succ n ih=>
  intro i j hn hl a hh k1 k2;by_cases he:i=j
  ·subst he;exact⟨i,by rw[A0,h2],hl,hh,k1,k2⟩
  rw[A0,h1 i j hl (by omega) hh]
  cases hp:p ((i+j)/2)with
  |true=>
   exact ih ((i+j)/2+1) j (by omega) (by omega) (by omega) hh (λ_=>by grind) k2
  |false=>
   exact ih i ((i+j)/2) (by omega) hl (by omega) (by omega) k1 λ_=>hp
theorem kQ (P X T:List γ) (k:Nat) (hk:k<X.length):gi (P++X++T) ((P.length+k:Nat):Int)=some X[k]:=by
 rw[Aw,Ax,Bp (by omega),Nat.add_sub_cancel_left,Bj hk,Ab hk]
theorem Vq (a:γ->Int) {X:List γ} {r:Nat} (h:srt a X) (h0:0<r) (hr:r<=X.length):∀u∈X.take r,a u<=a (X[r-1]'(by omega)):=by
 intro u hu;obtain⟨i,hi,e⟩:=AC hu;rw[HV]at e;simp only[AU]at hi;rw[<-e];by_cases b:i=r-1
 ·grind
 exact Dq.1 h i (r-1) (by omega) (by omega)<|by omega
theorem Vr (a:γ->Int) {X:List γ} {r:Nat} (h:srt a X) (hr:r<X.length):∀v∈X.drop r,a X[r]<=a v:=by
 intro v hv;obtain⟨i,hi,e⟩:=AC hv;rw[UY]at e;simp only[Cb]at hi;rw[<-e];by_cases b:i=0
 ·subst b;simp
 exact Dq.1 h r (r+i) (by omega) (by omega)<|by omega
theorem zG (a:γ->Int) (S:List γ) (x:γ) (v2:Nat) (B:Int×List γ->Option ((Int×List γ)⊕(List γ))) (hB:∀k l,B (k,l)=DG (Nw a) (v2:Int) k l):∀(Y P:List γ),P.length+Y.length+1=v2->v2<=1152921504606846976->
  Ap B ((P.length:Int),P++x::(Y++S))=some (P++Y++x::S):=by
 intro Y
 induction Y with
 |nil=>
  intro P h hN;rw[A0,hB];simp only[DG];simp only[BU]at h;rw[Cm (by omega) (by omega),Af (by omega:¬(P.length:Int)<(v2:Int)-1)];simp
 |cons y Y ih=>
  intro P h hN;simp only[A7]at h;rw[A0,hB];simp only[DG];rw[Cm (by omega) (by omega),Ad (by omega:(P.length:Int)<(v2:Int)-1),Ae,ad1 (by omega),B4,yK,Aa];simp only;have:=ih (P++ [y]) (by simp;omega) hN;simp only[Ai,A8,Ax,D6]at this;rw[this];simp
theorem ABX (a:γ->Int) (P S:List γ) (y:γ) (B:Int×List γ->Option ((Int×List γ)⊕(List γ))) (hB:∀k l,B (k,l)=DF (Nw a) (P.length:Int) k l):∀(n:Nat) (X S:List γ),X.length=n->P.length+X.length<=1152921504606846976->
  Ap B (((P.length+X.length:Nat):Int),P++X++y::S)=some (P++y::(X++S)):=by
 intro n
 induction n with
 |zero=>
  intro X S hX hN;have:=AG hX;subst this;rw[A0,hB];simp only[DF]
  grind
 |succ n ih=>
  intro X S hX hN
  rcases Hr X with rfl|⟨X0,z,rfl⟩
  ·simp at hX
  rw[Hs]at hX hN⊢;simp only[Ai,A8]at hX hN;have hl:P.length+(X0++ [z]).length=(P++X0).length+1:=by simp;omega
  have e0:P++(X0++ [z])++y::S=(P++X0)++z::y::S:=by simp
  have ej:sb (((P++X0).length+1:Nat):Int) 1=((P++X0).length:Nat):=by rw[Cm (by omega)<|by grind];omega
  rw[A0,hB];simp only[DF];rw[hl,e0,Ad (by grind:(((P++X0).length+1:Nat):Int)>(P.length:Int)),Ae,ej,tI,Aa];simp only;rw[show(P++X0).length=P.length+X0.length from Ai,ih X0 (z::S) (by omega)<|by omega];simp
section
variable (key:γ->Int)
set_option maxHeartbeats 1000000 in
theorem Xv:∀(n:Nat) (P X Y S:List γ),X≠ []->Y≠ []->srt key X->srt key Y->X.length+Y.length<=n->P.length+X.length+Y.length+S.length<=1152921504606846976->
  ∃Z,CI (Nw key) n (P++X++Y++S) (P.length:Nat) ((P.length+X.length:Nat):Int) ((P.length+X.length+Y.length:Nat):Int)=some (P++Z++S)/\srt key Z/\BW key (X++Y) Z:=by
 intro n
 induction n with
 |zero=>
  intro P X Y S hX hY _ _ hn _;exact absurd (AG<|by omega) hX
 |succ n ih=>
  intro P X Y S hX hY sX sY hn hN;have lX:=MU.2 hX;have lY:=MU.2 hY;have eXA:sb ((P.length+X.length:Nat):Int) (P.length:Nat)=(X.length:Int):=by rw[Cm (by omega)<|by omega];omega
  have eYB:sb ((P.length+X.length+Y.length:Nat):Int) ((P.length+X.length:Nat):Int)=(Y.length:Int):=by rw[Cm (by omega)<|by omega];omega
  rw[CI,eXA,eYB];by_cases h9:X.length=1
  ·obtain⟨x,rfl⟩:=List.length_eq_one_iff.1 h9;have:(((([x]:List γ).length:Nat):Int)==1)=true:=rfl;rw[this,Ae];simp only[A8]at hn hN⊢;obtain⟨r,r1,r2,r3,r4,r5⟩:=lA (B:=λs:Int×Int=>E4 (Nw key) (P++ [x]++Y++S) (P.length:Nat) s.1 s.2) (λc=>match Y[c-(P.length+1)]? with|some y=>decide (key y<key x)|none=>false) (P.length+1) (P.length+1+Y.length)
    (λi j hi w hj=>by
     simp only[E4];rw[Ad (by omega:(i:Int)<j),Ae];have hm:dL (i:Int) (j:Int)=(((i+j)/2:Nat):Int):=jQ i j (by omega);unfold dL at hm;rw[hm];have hk:(i+j)/2-(P.length+1)<Y.length:=by omega
     have g1:gi (P++ [x]++Y++S) (((i+j)/2:Nat):Int)=some Y[(i+j)/2-(P.length+1)]:=by
      have:=kQ (P++ [x]) Y S ((i+j)/2-(P.length+1)) hk;rw[show(P++ [x]).length+((i+j)/2-(P.length+1))=(i+j)/2 by simp;omega]at this;exact this
     have g2:gi (P++ [x]++Y++S) (P.length:Nat)=some x:=by
      have:=S4 P (Y++S) x;simpa using this
     unfold xY;rw[g1,Aa,g2,Aa,Aa,Ab hk];simp only[Nw];cases decide (key Y[(i+j)/2-(P.length+1)]<key x)
     ·rfl
     simp only[Ae];rw[ad1<|by omega])
    (λi=>by
     simp only[E4]
     grind)
    (Y.length) (P.length+1) (P.length+1+Y.length) (by omega) (Au _) (by omega) (Au _) (λh=>absurd h<|by omega) (λh=>absurd h<|by omega)
   rw[r1,Aa];have f:Y.take (r-(P.length+1))++Y.drop (r-(P.length+1))=Y:=Ch _ _;have a0:(Y.take<|r-(P.length+1)).length=r-(P.length+1):=by simp;omega
   have a1:∀y∈Y.take (r-(P.length+1)),key y<key x:=by
    intro y hy;have h0:0<r-(P.length+1):=by
     rcases TF (r-(P.length+1))with e|e
     ·rw[e]at hy;simp at hy
     exact e
    have:=Vq key sY h0 (by omega) y hy;have hp:=r4 (by omega);rw[show r-1-(P.length+1)=r-(P.length+1)-1 by omega,Ab<|by omega]at hp
    grind
   have a2:∀y∈Y.drop (r-(P.length+1)),key x<=key y:=by
    intro y hy;have h0:r-(P.length+1)<Y.length:=by
     rcases DX (r-(P.length+1)) Y.length with e|e
     ·exact e
     rw[DY e]at hy;simp at hy
    have:=Vr key sY h0 y hy;have hp:=r5 (by omega);rw[Ab h0]at hp
    grind
   have hm:=zG key (Y.drop (r-(P.length+1))++S) x r (λs=>DG (Nw key) (r:Int) s.1 s.2) (λ_ _=>rfl) (Y.take<|r-(P.length+1)) P (by omega) (by omega);have e:P++ [x]++Y++S=P++x::(Y.take (r-(P.length+1))++(Y.drop (r-(P.length+1))++S)):=by
    rw[<-Ax (Y.take _),f];simp
   rw[e,hm,Aa];refine⟨Y.take (r-(P.length+1))++x::Y.drop (r-(P.length+1)),by simp,?_,?_⟩
   ·have sY':=sY;rw[<-f]at sY';obtain⟨q1,q2,q3⟩:=AQ.1 sY';refine AQ.2 ⟨q1,C0.2 ⟨a2,q2⟩,λu hu v hv=>?_⟩
    rcases CO.1 hv with rfl|hv
    ·exact s8<|a1 u hu
    exact q3 u hu v hv
   have:=BW.swap key (a:=[x]) (b:=Y.take<|r-(P.length+1)) (λu hu y hy=>by simp at hu;grind);have:=GQ key this<|BW.refl key<|Y.drop<|r-(P.length+1);rw[Ax,f,Ax]at this;exact this
  have:((X.length:Int)==1)=false:=by grind
  rw[this,Ac];by_cases f:Y.length=1
  ·obtain⟨y,rfl⟩:=List.length_eq_one_iff.1 f;have:(((([y]:List γ).length:Nat):Int)==1)=true:=rfl;rw[this,Ae];simp only[A8]at hn hN⊢;have gY:gi (P++X++ [y]++S) ((P.length+X.length:Nat):Int)=some y:=by
    have:=S4 (P++X) S y
    grind
   obtain⟨r,r1,r2,r3,r4,r5⟩:=lA (B:=λs:Int×Int=>E0 (Nw key) (P++X++ [y]++S) ((P.length+X.length:Nat):Int) s.1 s.2) (λc=>match X[c-P.length]? with|some x=>!decide (key y<key x)|none=>false) P.length (P.length+X.length)
    (λi j hi w hj=>by
     simp only[E0];rw[Ad (by omega:(i:Int)<j),Ae];have hm:dL (i:Int) (j:Int)=(((i+j)/2:Nat):Int):=jQ i j (by omega);unfold dL at hm;rw[hm];have hk:(i+j)/2-P.length<X.length:=by omega
     have g1:gi (P++X++ [y]++S) (((i+j)/2:Nat):Int)=some X[(i+j)/2-P.length]:=by
      have:=kQ P X ([y]++S) ((i+j)/2-P.length) hk
      grind
     unfold xY;rw[gY,Aa,g1,Aa,Aa,Ab hk];simp only[Nw];cases decide (key y<key X[(i+j)/2-P.length])
     ·simp only[AD,Ae];rw[ad1<|by omega]
     rfl)
    (λi=>by
     simp only[E0]
     grind)
    (X.length) P.length (P.length+X.length) (by omega) (Au _) (by omega) (Au _) (λh=>absurd h<|by omega) (λh=>absurd h<|by omega)
   rw[r1,Aa];have hX1':X.take (r-P.length)++X.drop (r-P.length)=X:=Ch _ _;have a0:(X.take<|r-P.length).length=r-P.length:=by simp;omega
   have z:(X.drop<|r-P.length).length=X.length-(r-P.length):=by simp
   have a3:∀x∈X.take (r-P.length),key x<=key y:=by
    intro x hx;have h0:0<r-P.length:=by grind
    have:=Vq key sX h0 (by omega) x hx;have hp:=r4 (by omega);rw[show r-1-P.length=r-P.length-1 by omega,Ab<|by omega]at hp
    grind
   have l:∀x∈X.drop (r-P.length),key y<key x:=by
    intro x hx;have h0:r-P.length<X.length:=by grind
    have:=Vr key sX h0 x hx;have hp:=r5 (by omega);rw[Ab h0]at hp
    grind
   have m:(P++X.take (r-P.length)).length=r:=by grind
   have hm:=ABX key (P++X.take (r-P.length)) S y (λs=>DF (Nw key) (r:Int) s.1 s.2) (λ_ _=>by rw[m]) (X.drop<|r-P.length).length (X.drop<|r-P.length) S rfl (by rw[m,z];omega);have e:P++X++ [y]++S=P++X.take (r-P.length)++X.drop (r-P.length)++y::S:=by simp
   rw[m,z,show r+(X.length-(r-P.length))=P.length+X.length by omega]at hm;rw[e,hm,Aa];refine⟨X.take (r-P.length)++y::X.drop (r-P.length),by simp,?_,?_⟩
   ·have sX':=sX;rw[<-hX1']at sX';obtain⟨q1,q2,q3⟩:=AQ.1 sX';refine AQ.2 ⟨q1,C0.2 ⟨λv hv=>s8<|l v hv,q2⟩,λu hu v hv=>?_⟩
    rcases CO.1 hv with rfl|hv
    ·exact a3 u hu
    exact q3 u hu v hv
   have:=BW.swap key (a:=X.drop<|r-P.length) (b:=[y]) (λu hu v hv=>by simp at hv;grind);have:=GQ key (BW.refl key<|X.take<|r-P.length) this
   grind
  have:((Y.length:Int)==1)=false:=by grind
  rw[this,Ac];have g:dL (P.length:Nat) ((P.length+X.length+Y.length:Nat):Int)=(((P.length+(P.length+X.length+Y.length))/2:Nat):Int):=jQ _ _ (by omega);unfold dL at g;rw[g];obtain⟨mid,h1⟩:∃mid,mid=(P.length+(P.length+X.length+Y.length))/2:=⟨_,rfl⟩;rw[<-h1];have en:ad (mid:Int) ((P.length+X.length:Nat):Int)=((mid+(P.length+X.length):Nat):Int):=by rw[Cy (by omega)<|by omega];omega
  rw[en];obtain⟨lo,hi,a4,b2,b3,o,h8⟩:∃lo hi:Nat,((cond (decide<|((P.length+X.length:Nat):Int)>(mid:Int)) (some (sb ((mid+(P.length+X.length):Nat):Int) ((P.length+X.length+Y.length:Nat):Int),(mid:Int))) (some (((P.length:Nat):Int),((P.length+X.length:Nat):Int))):Option (Int×Int))=some ((lo:Int),(hi:Int)))/\
    P.length<=lo/\hi<=P.length+X.length/\lo<=hi/\(P.length+X.length>mid/\lo=mid+(P.length+X.length)-(P.length+X.length+Y.length)/\hi=mid\/P.length+X.length<=mid/\lo=P.length/\hi=P.length+X.length):=by
   by_cases l:P.length+X.length>mid
   ·refine⟨mid+(P.length+X.length)-(P.length+X.length+Y.length),mid,?_,by omega,by omega,by omega,.inl ⟨l,rfl,rfl⟩⟩;rw[Ad (by omega),Ae,Cm (by omega)<|by omega]
    grind
   exact⟨P.length,P.length+X.length,by grind,by omega,by omega,by omega,.inr ⟨by omega,rfl,rfl⟩⟩
  rw[a4,Aa];simp only;have a5:sb ((mid+(P.length+X.length):Nat):Int) 1=((mid+(P.length+X.length)-1:Nat):Int):=by rw[Cm (by omega)<|by omega];omega
  obtain⟨r,r1,r2,r3,r4,r5⟩:=lA (B:=λs:Int×Int=>Ez (Nw key) (P++X++Y++S) (P.length:Nat) ((P.length+X.length:Nat):Int) ((P.length+X.length+Y.length:Nat):Int) s.1 s.2)
   (λc=>match Y[mid+(P.length+X.length)-1-c-(P.length+X.length)]?,X[c-P.length]? with|some y,some x=>!decide (key y<key x)|_,_=>false) lo hi
   (λi j hi' w hj=>by
    simp only[Ez];rw[Ad (by omega:(i:Int)<j),Ae,g,<-h1,en,a5];have hm:dL (i:Int) (j:Int)=(((i+j)/2:Nat):Int):=jQ i j (by omega);unfold dL at hm;rw[hm];have hk:(i+j)/2-P.length<X.length:=by omega
    have d:mid+(P.length+X.length)-1-(i+j)/2-(P.length+X.length)<Y.length:=by omega
    have g1:gi (P++X++Y++S) (((i+j)/2:Nat):Int)=some X[(i+j)/2-P.length]:=by
     have:=kQ P X (Y++S) ((i+j)/2-P.length) hk
     grind
    have es:sb ((mid+(P.length+X.length)-1:Nat):Int) (((i+j)/2:Nat):Int)=(((P++X).length+(mid+(P.length+X.length)-1-(i+j)/2-(P.length+X.length)):Nat):Int):=by
     rw[Cm (by omega) (by omega),Ai];omega
    have g2:gi (P++X++Y++S) (((P++X).length+(mid+(P.length+X.length)-1-(i+j)/2-(P.length+X.length)):Nat):Int)=some Y[mid+(P.length+X.length)-1-(i+j)/2-(P.length+X.length)]:=kQ (P++X) Y S _ d;unfold xY;rw[es,g2,Aa,g1,Aa,Aa,Ab hk,Ab d];simp only[Nw];cases decide (key Y[mid+(P.length+X.length)-1-(i+j)/2-(P.length+X.length)]<key X[(i+j)/2-P.length])
    ·simp only[AD,Ae];rw[ad1<|by omega]
    rfl)
   (λi=>by
    simp only[Ez]
    grind)
   (hi-lo) lo hi (Au _) (Au _) o (Au _) (λh=>absurd h<|by omega) (λh=>absurd h<|by omega)
  rw[r1,Aa];obtain⟨fin,b1⟩:∃fin,fin=mid+(P.length+X.length)-r:=⟨_,rfl⟩;have h2:sb ((mid+(P.length+X.length):Nat):Int) (r:Int)=(fin:Int):=by rw[Cm (by omega)<|by omega];omega
  simp only[h2];have b4:P.length+X.length<=fin/\fin<=P.length+X.length+Y.length:=by omega
  obtain⟨A1,A2,hA⟩:∃A1 A2,A1=X.take (r-P.length)/\A2=X.drop (r-P.length):=⟨_,_,rfl,rfl⟩;obtain⟨B1,B2,hB⟩:∃B1 B2,B1=Y.take (fin-(P.length+X.length))/\B2=Y.drop (fin-(P.length+X.length)):=⟨_,_,rfl,rfl⟩;have p:A1++A2=X:=by rw[hA.1,hA.2];simp
  have q:B1++B2=Y:=by rw[hB.1,hB.2];simp
  have lA1:A1.length=r-P.length:=by rw[hA.1];simp;omega
  have lA2:A2.length=P.length+X.length-r:=by rw[hA.2];simp;omega
  have lB1:B1.length=fin-(P.length+X.length):=by rw[hB.1];simp;omega
  have lB2:B2.length=P.length+X.length+Y.length-fin:=by rw[hB.2];simp;omega
  have sX':=sX;rw[<-p]at sX';obtain⟨sA1,sA2,sA⟩:=AQ.1 sX';have sY':=sY;rw[<-q]at sY';obtain⟨sB1,sB2,sB⟩:=AQ.1 sY';have a6:∀u∈A1,∀v∈B2,key u<=key v:=by
   intro u hu v hv;have l1:=O2 hu;have l2:=O2 hv;have hp:=r4 (by omega);have d:mid+(P.length+X.length)-1-(r-1)-(P.length+X.length)<Y.length:=by omega
   have k:r-1-P.length<X.length:=by omega
   rw[Ab d,Ab k]at hp;simp only[CF,DH]at hp;rw[hA.1]at hu;have k1:=Vq key sX (r:=r-P.length) (by omega) (by omega) u hu;rw[hB.2]at hv;have k2:=Vr key sY (r:=fin-(P.length+X.length)) (by omega) v hv;have i1:X[r-P.length-1]'(by omega)=X[r-1-P.length]'k:=by congr 1;omega
   have i2:Y[fin-(P.length+X.length)]'(by omega)=Y[mid+(P.length+X.length)-1-(r-1)-(P.length+X.length)]'d:=by congr 1;omega
   rw[i1]at k1;rw[i2]at k2;omega
  have h3:∀x∈A2,∀y∈B1,key y<key x:=by
   intro x hx y hy;have l1:=O2 hx;have l2:=O2 hy;have hp:=r5 (by omega);have d:mid+(P.length+X.length)-1-r-(P.length+X.length)<Y.length:=by omega
   have k:r-P.length<X.length:=by omega
   rw[Ab d,Ab k]at hp;simp only[Bool.not_eq_false',A6]at hp;rw[hA.2]at hx;have k1:=Vr key sX k x hx;rw[hB.1]at hy;have k2:=Vq key sY (r:=fin-(P.length+X.length)) (by omega) (by omega) y hy;have i2:Y[fin-(P.length+X.length)-1]'(by omega)=Y[mid+(P.length+X.length)-1-r-(P.length+X.length)]'d:=by congr 1;omega
   rw[i2]at k2;omega
  have h4:(((bif decide ((r:Int)<((P.length+X.length:Nat):Int))then some (decide<|((P.length+X.length:Nat):Int)<(fin:Int))else some false:Option Bool).bind λj2=>
    (bif j2 then((Fz (Nw key) (P++X++Y++S) (r:Int) ((P.length+X.length:Nat):Int) (fin:Int)).bind λv11=>some v11)else some (P++X++Y++S):Option (List γ))))=some (P++A1++B1++A2++B2++S):=by
   have e:P++X++Y++S=(P++A1)++A2++B1++(B2++S):=by rw[<-p,<-q];simp
   by_cases c1:r<P.length+X.length
   ·rw[Ad (by omega:(r:Int)<((P.length+X.length:Nat):Int)),Ae,Aa];by_cases c2:P.length+X.length<fin
    ·rw[Ad (by omega:((P.length+X.length:Nat):Int)<(fin:Int)),Ae];have hr:=vN (lt:=Nw key) (P++A1) A2 B1 (B2++S) (by intro e;rw[e]at lA2;simp at lA2;omega) (by intro e;rw[e]at lB1;simp at lB1;omega) (by simp only[Ai];omega);rw[show(P++A1).length=r by rw[Ai];omega]at hr;rw[show r+A2.length=P.length+X.length by omega,show P.length+X.length+B1.length=fin by omega]at hr;rw[e,hr,Aa];simp
    rw[Af (by omega:¬((P.length+X.length:Nat):Int)<(fin:Int)),Ac,e];have:B1=[]:=AG (by omega);rw[this];simp
   rw[Af (by omega:¬(r:Int)<((P.length+X.length:Nat):Int)),Ac,Aa,Ac,e];have:A2=[]:=AG (by omega);rw[this];simp
  rw[<-Option.bind_assoc,h4,Aa]
  have h5:∃Z1,(((bif decide (((P.length:Nat):Int)<(r:Int))then some (decide<|(r:Int)<(mid:Int))else some false:Option Bool).bind λj4=>
    (bif j4 then((CI (Nw key) n (P++A1++B1++A2++B2++S) (P.length:Nat) (r:Int) (mid:Int)).bind λv12=>some v12)else some (P++A1++B1++A2++B2++S):Option (List γ))))=some (P++Z1++A2++B2++S)/\srt key Z1/\BW key (A1++B1) Z1:=by
   by_cases c1:P.length<r/\r<mid
   ·rw[Ad (by omega:((P.length:Nat):Int)<(r:Int)),Ae,Aa,Ad (by omega:(r:Int)<(mid:Int)),Ae];obtain⟨Z,z1,z2,z3⟩:=ih P A1 B1 (A2++B2++S) (by intro e;rw[e]at lA1;simp at lA1;omega) (by intro e;rw[e]at lB1;simp at lB1;omega) sA1 sB1 (by omega) (by simp only[Ai];omega);rw[show P.length+A1.length=r by omega,show r+B1.length=mid by omega]at z1;refine⟨Z,?_,z2,z3⟩;simp only[Ax]at z1⊢;rw[z1];rfl
   refine⟨A1++B1,?_,?_,BW.refl key _⟩
   ·have:((bif decide (((P.length:Nat):Int)<(r:Int))then some (decide<|(r:Int)<(mid:Int))else some false:Option Bool))=some false:=by
     by_cases c:P.length<r
     ·rw[Ad (by omega),Ae,Af<|by omega]
     rw[Af (by omega),Ac]
    rw[this,Aa,Ac];simp
   by_cases c:P.length<r
   ·have:B1=[]:=AG (by omega);rw[this,A3];exact sA1
   have:A1=[]:=AG (by omega);rw[this,A4];exact sB1
  obtain⟨Z1,a7,a8,t⟩:=h5;rw[<-Option.bind_assoc,a7,Aa];have lZ1:Z1.length=A1.length+B1.length:=by have:=t.len key;rw[Ai]at this;omega
  have h6:∃Z2,(bif decide ((mid:Int)<(fin:Int))then(bif decide ((fin:Int)<((P.length+X.length+Y.length:Nat):Int))then((CI (Nw key) n (P++Z1++A2++B2++S) (mid:Int) (fin:Int) ((P.length+X.length+Y.length:Nat):Int)).bind λv13=>some v13)else some<|P++Z1++A2++B2++S)else some (P++Z1++A2++B2++S):Option (List γ))=some (P++Z1++Z2++S)/\srt key Z2/\BW key (A2++B2) Z2:=by
   by_cases c1:mid<fin
   ·rw[Ad (by omega:(mid:Int)<(fin:Int)),Ae];by_cases c2:fin<P.length+X.length+Y.length
    ·rw[Ad (by omega:(fin:Int)<((P.length+X.length+Y.length:Nat):Int)),Ae];obtain⟨Z,z1,z2,z3⟩:=ih (P++Z1) A2 B2 S (by intro e;rw[e]at lA2;simp at lA2;omega) (by intro e;rw[e]at lB2;simp at lB2;omega) sA2 sB2 (by omega) (by simp only[Ai];omega);rw[show(P++Z1).length=mid by rw[Ai];omega,show mid+A2.length=fin by omega,show fin+B2.length=P.length+X.length+Y.length by omega]at z1;exact⟨Z,by rw[z1];rfl,z2,z3⟩
    rw[Af (by omega:¬(fin:Int)<((P.length+X.length+Y.length:Nat):Int)),Ac];have:B2=[]:=AG (by omega);refine⟨A2++B2,by simp,?_,BW.refl key _⟩;rw[this,A3];exact sA2
   rw[Af (by omega:¬(mid:Int)<(fin:Int)),Ac];have:A2=[]:=AG (by omega);refine⟨A2++B2,by simp,?_,BW.refl key _⟩;rw[this,A4];exact sB2
  obtain⟨Z2,a9,b0,h7⟩:=h6;rw[a9];refine⟨Z1++Z2,by simp,AQ.2 ⟨a8,b0,λu hu v hv=>?_⟩,?_⟩
  ·have hu':=(t.mem key).1 hu;have hv':=(h7.mem key).1 hv
   rcases Ak.1 hu' with hu'|hu'<;>rcases Ak.1 hv' with hv'|hv'
   ·exact sA u hu' v hv'
   ·exact a6 u hu' v hv'
   ·exact s8<|h3 v hv' u hu'
   exact sB u hu' v hv'
  have e1:=GQ key (BW.refl key A1)<|GQ key (BW.swap key h3)<|BW.refl key B2;have e2:=GQ key t h7;have e3:=BW.trans key (by simpa using e1) (by simpa using e2);have:X++Y=A1++(A2++(B1++B2)):=by rw[<-p,<-q];simp
  rw[this];simpa using e3
end
section
variable {γ:Type} (key:γ->Int)
inductive Blocks (bs:Nat):List γ->Prop
 |last {l:List γ} (h:l.length<=bs) (hs:srt key l):Blocks bs l
 |cons {X l:List γ} (h:X.length=bs) (hs:srt key X) (hl:Blocks bs l):Blocks bs (X++l)
end
theorem lC (c:γ->Int) (N:Nat) (hN:N<=1073741824) (B:Int×Int×List γ->Option ((Int×Int×List γ)⊕(Int×List γ))) (hB:∀a b l,B (a,b,l)=Dl (Nw c) (N:Int) a b l):
  ∀(k:Nat) (P T:List γ),T.length<=k->P.length+T.length=N->
   ∃Q R,Ap B ((P.length:Int),((P.length+20:Nat):Int),P++T)=some (((P.length+Q.length:Nat):Int),P++Q++R)/\BW c T (Q++R)/\R.length<20/\(∀R',srt c R'->R'.length=R.length->Blocks c 20 (Q++R')):=by
 intro k
 induction k with
 |zero=>
  intro P T hT hP;have:=AG<|Nat.le_zero.1 hT;subst this;refine⟨[],[],?_,BW.refl c _,by simp,λR' h h2=>?_⟩
  ·rw[A0,hB];simp only[Dl];simp only[BU]at hP;rw[Af (by omega:¬((P.length+20:Nat):Int)<=(N:Int))];simp
  rw[A4];exact .last (by simp only[BU]at h2;omega) h
 |succ k ih=>
  intro P T hT hP;by_cases h20:T.length<20
  ·refine⟨[],T,?_,by rw[A4];exact BW.refl c _,h20,λR' h h2=>by rw[A4];exact .last (by omega) h⟩;rw[A0,hB];simp only[Dl];rw[Af (by omega:¬((P.length+20:Nat):Int)<=(N:Int))];simp
  have d:T=T.take 20++T.drop 20:=(Ch _ _).symm;have l1:(T.take 20).length=20:=by simp;omega
  have l2:(T.drop 20).length=T.length-20:=by simp
  obtain⟨X',x1,x2,x3⟩:=Jc c P (T.take 20) (T.drop 20) (by omega);have lX:X'.length=20:=by have:=x3.len c;omega
  rw[l1]at x1;obtain⟨Q,R,q1,q2,q3,q4⟩:=ih (P++X') (T.drop 20) (by omega) (by rw[Ai];omega);refine⟨X'++Q,R,?_,?_,q3,λR' h h2=>?_⟩
  ·rw[A0,hB];simp only[Dl];rw[Ad (by omega:((P.length+20:Nat):Int)<=(N:Int)),Ae];have e:P++T=P++T.take 20++T.drop 20:=by rw[Ax,Ch]
   rw[e,x1,Aa];simp only;have e2:ad ((P.length+20:Nat):Int) 20=(((P++X').length+20:Nat):Int):=by rw[Cy (by omega) (by omega),Ai];omega
   rw[e2,show P.length+20=(P++X').length by rw[Ai];omega,q1];simp only[Ai,Ax,Kq]
  ·rw[Ax];have:=GQ c x3 q2;rw[Ch]at this;exact this
  rw[Ax];exact .cons lX x2<|q4 R' h h2
theorem lB (c:γ->Int) (N bs:Nat) (hN:N<=1073741824) (f:0<bs) (g:bs<N) (B:Int×Int×List γ->Option ((Int×Int×List γ)⊕(Int×List γ))) (hB:∀a b l,B (a,b,l)=D8 (Nw c) (N:Int) (bs:Int) a b l):
  ∀(k:Nat) (P T:List γ),T.length<=k->P.length+T.length=N->Blocks c bs T->
   ∃Q R,Ap B ((P.length:Int),((P.length+2*bs:Nat):Int),P++T)=some (((P.length+Q.length:Nat):Int),P++Q++R)/\BW c T (Q++R)/\R.length<2*bs/\Blocks c bs R/\(∀R',srt c R'->R'.length=R.length->Blocks c (2*bs) (Q++R')):=by
 intro k
 induction k with
 |zero=>
  intro P T hT hP hb;have:=AG<|Nat.le_zero.1 hT;subst this;refine⟨[],[],?_,BW.refl c _,by simp;omega,hb,λR' h h2=>?_⟩
  ·rw[A0,hB];simp only[D8];simp only[BU]at hP;rw[Af (by omega:¬((P.length+2*bs:Nat):Int)<=(N:Int))];simp
  rw[A4];exact .last (by simp only[BU]at h2;omega) h
 |succ k ih=>
  intro P T hT hP hb;by_cases h2:T.length<2*bs
  ·refine⟨[],T,?_,by rw[A4];exact BW.refl c _,h2,hb,λR' h h3=>by rw[A4];exact .last (by omega) h⟩;rw[A0,hB];simp only[D8];rw[Af (by omega:¬((P.length+2*bs:Nat):Int)<=(N:Int))];simp
  
  obtain⟨X,Y,T2,rfl,lX,lY,sX,sY,d⟩:∃X Y T2,T=X++Y++T2/\X.length=bs/\Y.length=bs/\srt c X/\srt c Y/\Blocks c bs T2:=by
   cases hb with
   |last h hs=>omega
   | @cons X l h hs hl=>
    cases hl with
    |last h' hs'=>
     simp only[Ai]at h2;exact⟨X,l,[],by simp,h,by omega,hs,hs',.last (by simp) List.Pairwise.nil⟩
    | @cons Y l' h' hs' hl'=>exact⟨X,Y,l',by simp,h,h',hs,hs',hl'⟩
  simp only[Ai]at hP hT h2;obtain⟨Z,z1,z2,z3⟩:=Xv c ((P++(X++Y++T2)).length+1) P X Y T2 (by intro e;rw[e]at lX;simp at lX;omega) (by intro e;rw[e]at lY;simp at lY;omega) sX sY (by simp only[Ai];omega) (by omega);have lZ:Z.length=2*bs:=by have:=z3.len c;rw[Ai]at this;omega
  obtain⟨Q,R,q1,q2,q3,q4,q5⟩:=ih (P++Z) T2 (by omega) (by rw[Ai];omega) d;refine⟨Z++Q,R,?_,?_,q3,q4,λR' h h3=>?_⟩
  ·rw[A0,hB];simp only[D8];rw[Ad (by omega:((P.length+2*bs:Nat):Int)<=(N:Int)),Ae];have e1:ad (P.length:Int) (bs:Int)=((P.length+X.length:Nat):Int):=by rw[Cy (by omega)<|by omega];omega
   have e2:((P.length+2*bs:Nat):Int)=((P.length+X.length+Y.length:Nat):Int):=by omega
   have e3:ad ((P.length+2*bs:Nat):Int) (ml 2 (bs:Int))=(((P++Z).length+2*bs:Nat):Int):=by
    rw[PH (by omega) (by omega),Cy (by omega) (by omega),Ai];omega
   have e4:P++(X++Y++T2)=P++X++Y++T2:=by simp
   rw[e3,e1,e2,e4];rw[e4]at z1;rw[z1,Aa];simp only;rw[show P.length+X.length+Y.length=(P++Z).length by rw[Ai];omega,q1];simp only[Ai,Ax,Kq]
  ·have:=GQ c z3 q2;simpa only[Ax]using this
  rw[Ax];exact .cons lZ z2<|q5 R' h h3
section
variable (key:γ->Int)
theorem eZ (l:List γ) (hN:l.length<=1073741824):∃r,Dz (Nw key) l (ln l)=some r/\srt key r/\BW key l r:=by
 have rounds:∀(B:Int×List γ->Option ((Int×List γ)⊕(List γ))),(∀b l',B (b,l')=D9 (Nw key) (l.length:Int) b l')->∀(k bs:Nat) (T:List γ),l.length<=bs+k->0<bs->bs<=2147483648->T.length=l.length->Blocks key bs T->∃r,Ap B ((bs:Int),T)=some r/\srt key r/\BW key T r:=by
  intro B hB k
  induction k with
  |zero=>
   intro bs T hk c d hT hb;rw[A0,hB];simp only[D9];rw[Af (by omega:¬(bs:Int)<(l.length:Int)),Ac];refine⟨T,rfl,?_,BW.refl key _⟩
   cases hb with
   |last h hs=>exact hs
   | @cons X l' h hs hl=>
    simp only[Ai]at hT;have:l'=[]:=AG (by omega);rw[this,A3];exact hs
  |succ k ih=>
   intro bs T hk c d hT hb;by_cases f:bs<l.length
   ·rw[A0,hB];simp only[D9];rw[Ad (by omega:(bs:Int)<(l.length:Int)),Ae];obtain⟨Q,R,q1,q2,q3,q4,q5⟩:=lB key l.length bs hN c f (λs=>D8 (Nw key) (l.length:Int) (bs:Int) s.1 s.2.1 s.2.2) (λ_ _ _=>rfl) T.length [] T (Au _) (by simp[hT]) hb;simp only[BU,A4,HS]at q1;have a:Q.length+R.length=l.length:=by have:=q2.len key;rw[Ai]at this;omega
    have e2:ml 2 (bs:Int)=((2*bs:Nat):Int):=by rw[PH (by omega)<|by omega];omega
    have e2':ml (bs:Int) 2=((2*bs:Nat):Int):=by rw[PH (by omega)<|by omega];omega
    rw[e2,e2'];rw[show((0:Nat):Int)=0 from rfl]at q1;rw[q1,Aa];simp only;have em:ad (Q.length:Int) (bs:Int)=((Q.length+bs:Nat):Int):=by rw[Cy (by omega)<|by omega];omega
    rw[em];by_cases hm:Q.length+bs<l.length
    ·rw[Ad (by omega:((Q.length+bs:Nat):Int)<(l.length:Int)),Ae];obtain⟨X,Y,rfl,lX,sX,sY⟩:∃X Y,R=X++Y/\X.length=bs/\srt key X/\srt key Y:=by
      cases q4 with
      |last h hs=>omega
      | @cons X l' h hs hl=>
       refine⟨X,l',rfl,h,hs,?_⟩
       cases hl with
       |last h' hs'=>exact hs'
       | @cons Y l'' h' hs' hl'=>
        simp only[Ai]at q3;have:l''=[]:=AG (by omega);rw[this,A3];exact hs'
     simp only[Ai]at a q3;obtain⟨Z,z1,z2,z3⟩:=Xv key ((Q++(X++Y)).length+1) Q X Y [] (by intro e;rw[e]at lX;simp at lX;omega) (by intro e;rw[e]at a;simp at a;omega) sX sY (by simp only[Ai];omega) (by simp only[BU];omega);have e5:Q++X++Y++ []=Q++(X++Y):=by simp
     rw[e5,A3,lX,show Q.length+bs+Y.length=l.length by omega]at z1;rw[z1,Aa];have lZ:Z.length=(X++Y).length:=(z3.len key).symm;obtain⟨r,r1,r2,r3⟩:=ih (2*bs) (Q++Z) (by omega) (by omega) (by omega) (by rw[Ai,lZ,Ai];omega)<|q5 Z z2 lZ;exact⟨r,r1,r2,BW.trans key q2<|BW.trans key (GQ key (BW.refl key Q) z3) r3⟩
    rw[Af (by omega:¬((Q.length+bs:Nat):Int)<(l.length:Int)),Ac];have sR:srt key R:=by
     cases q4 with
     |last h hs=>exact hs
     | @cons X l' h hs hl=>
      simp only[Ai]at a;have:l'=[]:=AG (by omega);rw[this,A3];exact hs
    obtain⟨r,r1,r2,r3⟩:=ih (2*bs) (Q++R) (by omega) (by omega) (by omega) (by rw[Ai];omega)<|q5 R sR rfl;exact⟨r,r1,r2,BW.trans key q2 r3⟩
   exact ih bs T (by omega) c d hT hb
 unfold Dz;rw[Bz];obtain⟨Q,R,q1,q2,q3,q4⟩:=lC key l.length hN (λs=>Dl (Nw key) (l.length:Int) s.1 s.2.1 s.2.2) (λ_ _ _=>rfl) l.length [] l (Au _) (by simp);simp only[BU,A4,HS]at q1;rw[show((0:Nat):Int)=0 from rfl,show((20:Nat):Int)=20 from rfl]at q1;rw[q1,Aa];have a:Q.length+R.length=l.length:=by have:=q2.len key;rw[Ai]at this;omega
 obtain⟨R',r1,r2,r3⟩:=Jc key Q R [] (by simp only[BU];omega);rw[A3,A3,a]at r1;simp only;rw[r1,Aa];have lR:R'.length=R.length:=(r3.len key).symm;obtain⟨r,w1,w2,w3⟩:=rounds (λs=>D9 (Nw key) (l.length:Int) s.1 s.2) (λ_ _=>rfl) l.length 20 (Q++R') (by omega) (by omega) (by omega) (by rw[Ai,lR];exact a)<|q4 R' r2 lR;rw[show((20:Nat):Int)=20 from rfl]at w1;rw[w1];exact⟨r,rfl,w2,BW.trans key q2<|BW.trans key (GQ key (BW.refl key Q) r3) w3⟩
end
end Go.TI
