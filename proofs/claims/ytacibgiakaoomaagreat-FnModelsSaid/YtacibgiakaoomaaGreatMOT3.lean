/- What walks of Go code need. No condition. -/
import Derived.Test.YtacibgiakaoomaaGreatMOT2
import Derived.Laws.Strings
import Derived.Laws.BitsLemmas
set_option linter.unusedSimpArgs false
set_option linter.unusedVariables false
namespace Go.TI
open Go Go.RowKit
structure RS where
 s:List (Nat×SV)
 b:List (Root×List TV)
 a:cG
def RS.st (x:RS):St:=qL x.s x.b x.a
abbrev rs (s:List (Nat×SV)) (b:List (Root×List TV)):RS:=⟨s,b,cG.none⟩
def RS.in (X:RS) (E:St):Bool:=X.b.all λr=>r.1.mem&&(E.boxes r.1).isSome
def RS.nf (X:RS) (E:St):St:=K8 E (X.s.map Prod.fst)<|X.b.map Prod.fst
def TQ (X:RS) (E:St):Prop:=X.in E=true/\X.nf E=X.st
variable {E:St} {γ β α S V σ W S' β':Type} {P:Program} {N i n j e by_:Nat} {Q:Exit->St->Prop} {ops ops2:Array Oper} {c y z:Code} {dn:List Nat} {w:World} {fn:Func} {X:RS} {f:FuncId} {as:List AV} {t':TV} {blk:Root->Nat} {row:List TV} {p:Prop} {r:β} {l:List α} {x:Option α} {s0:S} {kk:α->Option β} {body':S'->Option (S'⊕β)} {k:V->Option β} {H:V->RS} {s:σ} {v:V} {H2:V->RS} {fin:α->List TV} {lt:γ->γ->Bool}
def jR (H:V->RS) (v:Option V) (Q:Exit->St->Prop):Exit->St->Prop
 | .normal,E=>∃a,v=some a/\TQ (H a) E
 |e,E=>Q e E
def lR (id:Nat) (H:S->RS) (H2:V->RS) (o:S⊕V⊕W) (Q:Exit->St->Prop):Exit->St->Prop
 | .normal,E=>∃s,o= .inl s/\TQ (H s) E
 | .exit i,E=>if i=id then∃v,o= .inr (.inl v)/\TQ (H2 v) E else Q (.exit i) E
 |e,E=>Q e E
def rP (id:Nat) (H:S->RS) (H2:V->RS) (o:S⊕V) (Q:Exit->St->Prop):Exit->St->Prop
 | .normal,E=>∃s,o= .inl s/\TQ (H s) E
 | .exit i,E=>if i=id then∃v,o= .inr v/\TQ (H2 v) E else Q (.exit i) E
 |e,E=>Q e E
theorem Ax (h:TQ X E) (hw:Wp P N c X.st Q):Wp P N c E Q:=Wp.norm _ _ _ (by rw[List.all_map];exact h.1) h.2 hw
theorem WM {x:Option V} (h:x.bind k=some r) (H:V->RS) (h1:∀a,x=some a->Wp P N c E (jR H (some a) Q)) (h2:∀a,k a=some r->∀E',TQ (H a) E'->Q .normal E'):Wp P N c E Q:=by
 obtain⟨a,ha,h⟩:=Aj.1 h
 refine Wp.mono (h1 a ha) λe E' hq=>?_
 cases e<;>try exact hq
 obtain⟨a',h3,h4⟩:=hq
 grind
theorem qS {x:Option (V⊕W)} {k:V⊕W->Option β} (h:x.bind k=some r) (H:V->RS) (h1:∀a,x=some a->k a=some r->Wp P N c E (jR H a.getLeft? Q)) (h2:∀a,k (.inl a)=some r->∀E',TQ (H a) E'->Q .normal E'):Wp P N c E Q:=by
 obtain⟨a,ha,h⟩:=Aj.1 h
 refine Wp.mono (h1 a ha h) λe E' hq=>?_
 cases e<;>try exact hq
 obtain⟨a',h3,h4⟩:=hq
 grind
theorem MX {A:Type} {H:S->RS} {Q':Exit->St->Prop} {body:S->Option (S⊕A)} {a:A} (hb:∀s o,body s=some o->(∀a',o= .inr a'->a'=a)->Wp P N c (H s).st (λe E=>match e with| .normal=>∃s,o= .inl s/\TQ (H s) E|e=>Q' e E)):
  ∀{n:Nat} {s:S} {E:St},TQ (H s) E->LH body n s=some a->Xb P N c Q' n E
 |0,s,E,_,h=>by cases h
 |n+1,s,E,hn,h=>by
  simp only[LH]at h;refine Ax hn ?_;split at h
  ·cases h
  ·rename_i s' hs
   refine Wp.mono (hb s _ hs (λa' h=>by cases h)) λe E' hq=>?_
   cases e<;>try exact hq
   obtain⟨s2,h2,h3⟩:=hq
   injection h2 with h2
   subst h2;exact MX hb h3 h
  rename_i a' hs
  refine Wp.mono (hb s _ hs λa2 h2=>by grind) λe E' hq=>?_
  cases e<;>try exact hq
  grind
theorem qQ {id:Nat} {k:V⊕W->Option β} {H:S->RS} {body:S->Option (S⊕V⊕W)} (h:(Ai body s0).bind k=some r) (h0:TQ (H s0) E) (hb:∀s o,body s=some o->(∀w,o= .inr (.inr w)->k (.inr w)=some r)->Wp P N c (H s).st (lR id H H2 o Q)) (h2:∀v,k (.inl v)=some r->∀E',TQ (H2 v) E'->Q .normal E'):Wp P N (.block id (.loop c)) E Q:=by
 obtain⟨a,ha,h⟩:=Aj.1 h;obtain⟨n,hn⟩:=ER.1 ha;refine Wp.block<|Wp.loop n<|MX (H:=H) (a:=a) (λs o hs ho=>?_) h0 hn
 refine Wp.mono (hb s o hs λw hw=>by grind) λe E' hq=>?_
 simp_all [lR,QB];grind
theorem qR {id:Nat} {H:S->RS} {body:S->Option (S⊕V)} (h:(Ai body s0).bind k=some r) (h0:TQ (H s0) E) (hb:∀s o,body s=some o->Wp P N c (H s).st (rP id H H2 o Q)) (h2:∀v,k v=some r->∀E',TQ (H2 v) E'->Q .normal E'):Wp P N (.block id (.loop c)) E Q:=by
 obtain⟨a,ha,h⟩:=Aj.1 h;obtain⟨n,hn⟩:=ER.1 ha;refine Wp.block<|Wp.loop n<|MX (H:=H) (a:=a) (λs o hs ho=>?_) h0 hn
 refine Wp.mono (hb s o hs) λe E' hq=>?_
 simp_all [rP,QB];grind
theorem PK {id:Nat} {k:V⊕W->Option β} {body:S->Option (S⊕V⊕W)} (h:(Ai body s0).bind k=some r) (H:S->RS) (H2:V->RS) (hb:∀s o,body s=some o->(∀w,o= .inr (.inr w)->k (.inr w)=some r)->Wp P N c (H s).st (lR id H H2 o Q)) (h2:∀v,k (.inl v)=some r->∀E',TQ (H2 v) E'->Q .normal E') (h0:(H s0).in E=true:=by kernel_rfl) (hn:(H s0).nf E=(H s0).st:=by kernel_rfl):Wp P N (.block id<|.loop c) E Q:=qQ h ⟨h0,hn⟩ hb h2
theorem G9 {id:Nat} {body:S->Option (S⊕V)} (h:(Ai body s0).bind k=some r) (H:S->RS) (H2:V->RS) (hb:∀s o,body s=some o->Wp P N c (H s).st (rP id H H2 o Q)) (h2:∀v,k v=some r->∀E',TQ (H2 v) E'->Q .normal E') (h0:(H s0).in E=true:=by kernel_rfl) (hn:(H s0).nf E=(H s0).st:=by kernel_rfl):Wp P N (.block id<|.loop c) E Q:=qR h ⟨h0,hn⟩ hb h2
theorem E6 {x:Option V} (h:x.bind k=some r) (H:V->RS) (h1:∀a,x=some a->Wp P N c E (jR H (some a) (GH (λE'=>Wp P N y E' Q) Q))) (h2:∀a,k a=some r->Wp P N y (H a).st Q):Wp P N (.seq c y) E Q:=Wp.seq<|WM h H h1 λa ha E' hE=>Ax hE<|h2 a ha
theorem rV {id:Nat} {body:S->Option (S⊕V)} (h:(Ai body s0).bind k=some r) (H:S->RS) (H2:V->RS) (hb:∀s o,body s=some o->Wp P N c (H s).st (rP id H H2 o (GH (λE'=>Wp P N y E' Q) Q))) (h2:∀v,k v=some r->Wp P N y (H2 v).st Q) (h0:(H s0).in E=true:=by kernel_rfl) (hn:(H s0).nf E=(H s0).st:=by kernel_rfl):Wp P N (.seq (.block id<|.loop c) y) E Q:=Wp.seq<|qR h ⟨h0,hn⟩ hb λv hv E' hE=>Ax hE<|h2 v hv
theorem sL {id:Nat} {k:V⊕W->Option β} {body:S->Option (S⊕V⊕W)} (h:(Ai body s0).bind k=some r) (H:S->RS) (H2:V->RS) (hb:∀s o,body s=some o->(∀w,o= .inr (.inr w)->k (.inr w)=some r)->Wp P N c (H s).st (lR id H H2 o (GH (λE'=>Wp P N y E' Q) Q))) (h2:∀v,k (.inl v)=some r->Wp P N y (H2 v).st Q) (h0:(H s0).in E=true:=by kernel_rfl) (hn:(H s0).nf E=(H s0).st:=by kernel_rfl):Wp P N (.seq (.block id<|.loop c) y) E Q:=Wp.seq<|qQ h ⟨h0,hn⟩ hb λv hv E' hE=>Ax hE<|h2 v hv
theorem en {a v:V} (h:some v=some a) (hb:(H v).in E=true:=by kernel_rfl) (hn:(H v).nf E=(H v).st:=by kernel_rfl):∃a',some a=some a'/\TQ (H a') E:=by
 injection h with h
 subst h;exact⟨_,rfl,hb,hn⟩
theorem em {a:V⊕W} (h:some (.inl v)=some a) (hb:(H v).in E=true:=by kernel_rfl) (hn:(H v).nf E=(H v).st:=by kernel_rfl):∃a',a.getLeft? =some a'/\TQ (H a') E:=by
 injection h with h
 subst h;exact⟨_,rfl,hb,hn⟩
theorem el {H:S->RS} {o:S⊕W} {s:S} (h:some (.inl s)=some o) (hb:(H s).in E=true:=by kernel_rfl) (hn:(H s).nf E=(H s).st:=by kernel_rfl):∃s,o= .inl s/\TQ (H s) E:=by
 injection h with h
 subst h;exact⟨_,rfl,hb,hn⟩
theorem ex {o:S⊕(V⊕W)} (h:some (.inr (.inl v))=some o) (hb:(H v).in E=true:=by kernel_rfl) (hn:(H v).nf E=(H v).st:=by kernel_rfl):∃v,o= .inr (.inl v)/\TQ (H v) E:=by
 injection h with h
 subst h;exact⟨_,rfl,hb,hn⟩
theorem ev {o:S⊕V} (h:some (.inr v)=some o) (hb:(H v).in E=true:=by kernel_rfl) (hn:(H v).nf E=(H v).st:=by kernel_rfl):∃v,o= .inr v/\TQ (H v) E:=by
 injection h with h
 subst h;exact⟨_,rfl,hb,hn⟩
def oB (P:Program) (N:Nat) (a:Array Oper) (ts mv dn:List Nat) (E:St) (X:RS):Bool:=match dF P N a ts mv (a.size+1) dn E with
 |some L=>L.all λE'=>X.in E'
 |none=>false
theorem kQ {ts:List Nat} {mv:List Nat} (hb:oB P N ops ts mv dn E X=true) (hn:(gG P N ops ts mv dn E).map X.nf=(gG P N ops ts mv dn E).map λ_=>X.st) (hq:∀E',TQ X E'->Q .normal E'):KW P N ops ts dn E Q:=by
 unfold oB at hb;split at hb
 ·rename_i L hL
  refine aE hL λE' hE=>hq E' ⟨List.all_eq_true.1 hb E' hE,?_⟩
  simp_all [gG]
 cases hb
section
variable {ts:List Nat}
theorem M4 {Q0:Exit->St->Prop} {a v:V} (mv:List Nat) (h:some v=some a) (hb:oB P N ops ts mv dn E (H v)=true:=by kernel_rfl) (hn:(gG P N ops ts mv dn E).map (H v).nf=(gG P N ops ts mv dn E).map (λ_=>(H v).st):=by kernel_rfl):KW P N ops ts dn E (jR H (some a) Q0):=
 kQ hb hn λE' hE=>by
  injection h with h
  subst h;exact⟨_,rfl,hE⟩
end
theorem rk (k:Nat) (h:RW P N ops (i+k) (KP P N ops k 0 i E) Q) (hk:(M0 P N ops k 0 i E).isSome=true:=by kernel_rfl):RW P N ops i E Q:=eN k 0 h hk
theorem tD (k m:Nat) (h:RW P N ops (i+k) (KP P N ops k m i E) Q) (hk:(M0 P N ops k m i E).isSome=true:=by kernel_rfl):RW P N ops i E Q:=eN k m h hk
theorem kL (a b:Nat):Nat.ble a (b+(a-b))=true:=by rw[mM];omega
theorem gm (m:Nat) (h:Q .normal (KP P N ops (ops.size-i) m i E)) (hk:(M0 P N ops (ops.size-i) m i E).isSome=true:=by kernel_rfl):RW P N ops i E Q:=eN (ops.size-i) m (RW.nil h<|kL _ _) hk
theorem g0 (h:Q .normal (KP P N ops (ops.size-i) 0 i E)) (hk:(M0 P N ops (ops.size-i) 0 i E).isSome=true:=by kernel_rfl):RW P N ops i E Q:=gm 0 h hk
section
variable {id:Nat}
theorem wm (m:Nat) (h:RW P N ops2 0 (KP P N ops (ops.size-i) m i E) (GH (λE'=>Wp P N y E' Q) Q)) (hk:(M0 P N ops (ops.size-i) m i E).isSome=true:=by kernel_rfl):RW P N ops i E (GH (λE'=>Wp P N (.seq (.region id ops2 false) y) E' Q) Q):=gm m (ws h) hk
end
section
variable {id:Nat}
theorem w0 (h:RW P N ops2 0 (KP P N ops (ops.size-i) 0 i E) (GH (λE'=>Wp P N y E' Q) Q)) (hk:(M0 P N ops (ops.size-i) 0 i E).isSome=true:=by kernel_rfl):RW P N ops i E (GH (λE'=>Wp P N (.seq (.region id ops2 false) y) E' Q) Q):=wm 0 h hk
end
section
variable {id:Nat}
theorem wg (h:GH (λE'=>Wp P N y E' Q) Q .normal (KP P N ops (ops.size-0) 0 0 E)) (hk:(M0 P N ops (ops.size-0) 0 0 E).isSome=true:=by kernel_rfl):Wp P N (.seq (.region id ops false) y) E Q:=ws<|g0 h hk
end
section
variable {x:Code}
theorem qs (h:Wp P N x E (GH (λE'=>Wp P N y E' Q) Q)):Wp P N (.seq x y) E Q:=Wp.seq h
end
theorem qk (h:Q .normal E):Wp P N .skip E Q:=Wp.skip h
theorem qt (h:Q .ret E):Wp P N .ret E Q:=Wp.ret h
theorem qx {id:Nat} (h:Q (.exit id) E):Wp P N (.exit id) E Q:=Wp.exit h
theorem qb {id:Nat} (h:Wp P N c E (QB id Q)):Wp P N (.block id c) E Q:=Wp.block h
theorem qr {id:Nat} (h:RW P N ops 0 E Q):Wp P N (.region id ops false) E Q:=nL h
section
variable {id:Nat}
theorem qd {Q1:Exit->St->Prop} (h:Wp P N c E (QB id (GH (λE'=>Wp P N y E' Q1) Q1))):Wp P N .skip E (GH (λE'=>Wp P N (.seq (.block id c) y) E' Q1) Q1):=qk<|qs<|qb h
end
section
variable {id:Nat}
theorem qw (h:GH (λE'=>Wp P N y E' (GH (λE'=>Wp P N z E' Q) Q)) (GH (λE'=>Wp P N z E' Q) Q) .normal (KP P N ops (ops.size-0) 0 0 E)) (hk:(M0 P N ops (ops.size-0) 0 0 E).isSome=true:=by kernel_rfl):Wp P N (.seq (.seq (.region id ops false) y) z) E Q:=qs<|wg h hk
end
section
variable {id:Nat}
theorem qv (h:RW P N ops 0 E (GH (λE'=>Wp P N y E' (GH (λE'=>Wp P N z E' Q) Q)) (GH (λE'=>Wp P N z E' Q) Q))):Wp P N (.seq (.seq (.region id ops false) y) z) E Q:=qs<|ws h
end
theorem wq {id:Nat} (h:Q .ret (KP P N ops (ops.size-0) 0 0 E)) (hk:(M0 P N ops (ops.size-0) 0 0 E).isSome=true:=by kernel_rfl):Wp P N (.seq (.region id ops false) .ret) E Q:=wg (qt h) hk
theorem aq {s:SV} (hp:AF P E (oA ops i)=some s) (h:RW P N ops (i+1) (E.put (oA ops i).dst s) Q) (hk:f7 P N ops i E=true:=by kernel_rfl):RW P N ops i E Q:=RW.q hp h hk
theorem Ct {s:SV} (k:Nat) (hp:AF P (KP P N ops k 0 i E) (oA ops (i+k))=some s) (h:RW P N ops (i+k+1) ((KP P N ops k 0 i E).put (oA ops (i+k)).dst s) Q) (hk:(M0 P N ops k 0 i E).isSome=true:=by kernel_rfl) (hq:f7 P N ops (i+k) (KP P N ops k 0 i E)=true:=by kernel_rfl):RW P N ops i E Q:=eN k 0 (RW.q hp h hq) hk
theorem kq {ts:List Nat} {s:SV} (i:Nat) (hp:AF P E (oA ops i)=some s) (h:KW P N ops ts (i::dn) (E.put (oA ops i).dst s) Q) (hk:(f7 P N ops i E&&cK ops ts dn i)=true:=by kernel_rfl):KW P N ops ts dn E Q:=KW.q i hp h hk
theorem ac {l:List AV} (h:x.bind kk=some r) {enc:α->SV} (a:∀v,x=some v->A6 P (PP (oA ops i)) l (enc v) (List.replicate n .gone)) (hk:∀v,kk v=some r->RW P N ops (i+1) ((jW P E (oA ops i) 0).put (oA ops i).dst (enc v)) Q) (b:TR P E (oA ops i) 0=some l:=by kernel_rfl) (hc:jO P E (oA ops i) 0=true\/∀v,AK (enc v)=false:=by exact .inl<|by kernel_rfl) (ho:(OF P ops E i&&Q6 P N (oA ops i))=true:=by kernel_rfl):RW P N ops i E Q:=RW.c 0 h a (λv _=>hk v) b hc ho
theorem BJ {l:List AV} (k:Nat) (h:x.bind kk=some r) {enc:α->SV} (a:∀v,x=some v->A6 P (PP (oA ops (i+k))) l (enc v) (List.replicate n .gone)) (hk:∀v,kk v=some r->RW P N ops (i+k+1) ((jW P (KP P N ops k 0 i E) (oA ops (i+k)) 0).put (oA ops (i+k)).dst (enc v)) Q) (hr:(M0 P N ops k 0 i E).isSome=true:=by kernel_rfl) (b:TR P (KP P N ops k 0 i E) (oA ops<|i+k) 0=some l:=by kernel_rfl) (hc:jO P (KP P N ops k 0 i E) (oA ops<|i+k) 0=true\/∀v,AK (enc v)=false:=by exact .inl<|by kernel_rfl) (ho:(OF P ops (KP P N ops k 0 i E) (i+k)&&Q6 P N (oA ops<|i+k))=true:=by kernel_rfl):RW P N ops i E Q:=eN k 0 (RW.c 0 h a (λv _=>hk v) b hc ho) hr
theorem tN {l:List AV} (m:Nat) (h:x.bind kk=some r) {enc:α->SV} (a:∀v,x=some v->A6 P (PP (oA ops i)) l (enc v) (List.replicate n .gone)) (hk:∀v,kk v=some r->RW P N ops (i+1) ((jW P E (oA ops i) m).put (oA ops i).dst (enc v)) Q) (b:TR P E (oA ops i) m=some l:=by kernel_rfl) (hc:jO P E (oA ops i) m=true\/∀v,AK (enc v)=false:=by exact .inl<|by kernel_rfl) (ho:(OF P ops E i&&Q6 P N (oA ops i))=true:=by kernel_rfl):RW P N ops i E Q:=RW.c m h a (λv _=>hk v) b hc ho
section
variable {ts:List Nat}
theorem HX {l:List AV} (m:Nat) (h:x.bind kk=some r) {enc:α->SV} (a:∀v,x=some v->A6 P (PP (oA ops i)) l (enc v) (List.replicate n .gone)) (hk:∀v,kk v=some r->KW P N ops ts (i::dn) ((jW P E (oA ops i) m).put (oA ops i).dst (enc v)) Q) (b:TR P E (oA ops i) m=some l:=by kernel_rfl) (hc:jO P E (oA ops i) m=true\/∀v,AK (enc v)=false:=by exact .inl<|by kernel_rfl) (ho:(OF P ops E i&&Q6 P N (oA ops i)&&((bits m<|Ed<|oA ops i).all (λx=>!x.1)||ts.contains i))=true:=by kernel_rfl):KB P N ops ts dn i E Q:=KB.c m h a (λv _=>hk v) b hc ho
end
theorem M9 {l:List AV} (h:x.bind kk=some r) {enc:α->SV} {a:List TV} (c:∀v,x=some v->A6 P (PP (oA ops i)) (.ext a::l) (enc v) (.ext (fin v)::List.replicate n .gone)) (hk:∀v,kk v=some r->RW P N ops (i+1) (((E.setRoot (Y0 E (oA ops i)) (fin v)).bump (Y0 E (oA ops i))).put (oA ops i).dst (enc v)) Q) (b:∀v,(fin v).length=a.length:=by exact λ_=>rfl) (d:d8 P E (oA ops i)=some l:=by kernel_rfl) (hb:E.boxes (Y0 E<|oA ops i)=some a:=by kernel_rfl) (hc:pR P E (oA ops i)=true\/∀v,AK (enc v)=false/\Av (fin v)=false:=by exact .inl<|by kernel_rfl) (ho:(OF P ops E i&&Q6 P N (oA ops i)&&d7 E (oA ops i))=true:=by kernel_rfl):RW P N ops i E Q:=rA h c b (λv _=>hk v) d hb hc ho
theorem pQ {ts:List Nat} {l:List AV} (h:x.bind kk=some r) {enc:α->SV} {a:List TV} (c:∀v,x=some v->A6 P (PP (oA ops i)) (.ext a::l) (enc v) (.ext (fin v)::List.replicate n .gone)) (hk:∀v,kk v=some r->KW P N ops ts (i::dn) (((E.setRoot (Y0 E (oA ops i)) (fin v)).bump (Y0 E (oA ops i))).put (oA ops i).dst (enc v)) Q) (b:∀v,(fin v).length=a.length:=by exact λ_=>rfl) (d:d8 P E (oA ops i)=some l:=by kernel_rfl) (hb:E.boxes (Y0 E<|oA ops i)=some a:=by kernel_rfl) (hc:pR P E (oA ops i)=true\/∀v,AK (enc v)=false/\Av (fin v)=false:=by exact .inl<|by kernel_rfl) (ho:(OF P ops E i&&Q6 P N (oA ops i)&&d7 E (oA ops i)&&ts.contains i)=true:=by kernel_rfl):KB P N ops ts dn i E Q:=rE h c b (λv _=>hk v) d hb hc ho
theorem Cw {tx ty:Option β} {b:Bool} (k t:Nat) (h:(bif b then tx else ty)=some r) (ht:tx=some r->RW P N ops (i+k) ((KP P N ops k 0 i E).rs t true) Q) (hf:ty=some r->RW P N ops (i+k) ((KP P N ops k 0 i E).rs t false) Q) (hr:(M0 P N ops k 0 i E).isSome=true:=by kernel_rfl) (hc:(KP P N ops k 0 i E).slots t=B b:=by kernel_rfl):RW P N ops i E Q:=eN k 0 (q8 t h ht hf hc) hr
def WS (fn:Func):Code:=fn.body.getD .skip
theorem VE (h:fn.body.isSome=true):fn.body=some (WS fn):=by
 unfold WS
 cases e:fn.body with
 |none=>grind
 |some c=>rfl
theorem gf {a:SV} (hf:P.funcs[f]?=some fn) (hN:fn.ntmps=N) (h:Wp P N (WS fn) (CT as) λe E=>(e= .normal\/e= .ret)/\∃ss E',Dg P E fn.results.toList=some (ss,E')/\Ds ss=a) (hb:fn.body.isSome=true:=by kernel_rfl):A6 P f as a (List.replicate as.length .gone):=gk hf (VE hb) hN h
theorem jU {a cells':List TV} {b:SV} (hf:P.funcs[f]?=some fn) (hN:fn.ntmps=N) (h:Wp P N (WS fn) (CT (.ext a::as)) λe E=>(e= .normal\/e= .ret)/\∃ss E',Dg P E fn.results.toList=some (ss,E')/\Ds ss=b/\E'.boxes (.ext 0)=some cells') (hb:fn.body.isSome=true:=by kernel_rfl) (c:cells'.isEmpty=false:=by rfl):A6 P f (.ext a::as) b (.ext cells'::List.replicate as.length .gone):=tJ hf (VE hb) hN h c
def WJ:TV->List TV->TV
 | .sl _ e s _,row=> .sl true e s row
 |t,_=>t
def JM (cs:List TV) (j:Nat) (a:List TV):List TV:=match cs[j]? with
 |some t=>cs.set j<|WJ t a
 |none=>cs
theorem Tm {s:Nat} {cs:List TV} {a:List TV} (h:cs[j]?=some (.sl true e s a)) (c:Nat):(JM cs j (A7 a))[c]?=if c=j then some (.sl true e s (A7 a))else cs[c]? :=by
 simp only[JM,h,WJ]
 grind
theorem dW {s:Nat} {q:List Nat} {r1:List TV} {cs:List TV} {a:List TV} (h:cs[j]?=some (.sl true e s a)) (hq:Bg cs q=some r1) (i:Nat):
  ∃r2,Bg (JM cs j (A7 a)) q=some r2/\(r1[i]?.isSome=true->r2[i]?.isSome=true)/\(F7 r1[i]?=true->F7 r2[i]?=true):=by
 cases q with
 |nil=>
  injection hq with hq
  subst hq;refine⟨_,rfl,?_,?_⟩
  ·rw[Tm h]
   grind
  rw[Tm h];split
  ·intro _;rfl
  exact id
 |cons c q=>
  simp only[Bg,Tm h];simp only[Bg]at hq;by_cases hc:c=j
  ·subst hc;rw[h]at hq;rw[Bc rfl];simp only[Nq,hq,GC];refine⟨_,rfl,?_,?_⟩
   ·rw[Fg];simp
   rw[Fg]
   cases r1[i]? with
   |none=>exact id
   |some t=>simp only[F7,GC,Sq];exact id
  grind
theorem Qo:∀{ts:List TV} {vs:List Value} {F U:List Nat} {j:Nat} {t:TV},Bh w ts vs F U->ts[j]?=some t->F.Nodup->(∀v F1 U1,F1.Nodup->DD w t v F1 U1->∃F2 U2,DD w t' v F2 U2/\CN F1 U1 F2 U2)->
  ∃F' U',Bh w (ts.set j t') vs F' U'/\CN F U F' U'
 |[],vs,F,U,j,t,h,hj,_,_=>by simp at hj
 |x::ts,vs,F,U,0,t,h,hj,hn,hk=>by
  simp at hj;subst hj;obtain⟨v,a,F1,F2,U1,U2,rfl,rfl,rfl,h1,h2⟩:=h;obtain⟨F1',U1',a1,a2⟩:=hk v F1 U1 (Bx.1 hn).1 h1;exact⟨F1'++F2,U1'++U2,by simp only[List.set_cons_zero,Bh];grind,GT hn a2 CN.refl⟩
 |x::ts,vs,F,U,j+1,t,h,hj,hn,hk=>by
  obtain⟨v,a,F1,F2,U1,U2,rfl,rfl,rfl,h1,h2⟩:=h;obtain⟨F2',U2',a1,a2⟩:=Qo h2 (by simpa using hj) (Bx.1 hn).2.1 hk;exact⟨F1++F2',U1++U2',by simp only[List.set_cons_succ,Bh];grind,GT hn CN.refl a2⟩
theorem Rr {a:Act} {blk:Root->Nat}:∀{ts:List TV} {vs:List Value} {F U:List Nat} {j:Nat} {t:TV},BG w a E blk ts vs F U->ts[j]?=some t->F.Nodup->(∀v F1 U1,F1.Nodup->CI w a E blk t v F1 U1->∃F2 U2,CI w a E blk t' v F2 U2/\CN F1 U1 F2 U2)->
  ∃F' U',BG w a E blk (ts.set j t') vs F' U'/\CN F U F' U'
 |[],vs,F,U,j,t,h,hj,_,_=>by simp at hj
 |x::ts,vs,F,U,0,t,h,hj,hn,hk=>by
  simp at hj;subst hj;obtain⟨v,b,F1,F2,U1,U2,rfl,rfl,rfl,h1,h2⟩:=h;obtain⟨F1',U1',a1,a2⟩:=hk v F1 U1 (Bx.1 hn).1 h1;exact⟨F1'++F2,U1'++U2,by exact⟨v,b,F1',F2,U1',U2,rfl,rfl,rfl,a1,h2⟩,GT hn a2 CN.refl⟩
 |x::ts,vs,F,U,j+1,t,h,hj,hn,hk=>by
  obtain⟨v,b,F1,F2,U1,U2,rfl,rfl,rfl,h1,h2⟩:=h;obtain⟨F2',U2',a1,a2⟩:=Rr h2 (by simpa using hj) (Bx.1 hn).2.1 hk;exact⟨F1++F2',U1++U2',by exact⟨v,b,F1,F2',U1,U2',rfl,rfl,rfl,h1,a1⟩,GT hn CN.refl a2⟩
def oS (E:St) (r:Root) (j:Nat) (a:List TV):St:=match E.root r with
 |some cs=>E.setRoot r<|JM cs j a
 |none=>E
theorem Yq {a:Act} {r:Root} {s:Nat} {cs:List TV} {b:List TV} (hr:E.root r=some cs) (hj:cs[j]?=some (.sl true e s b)) (hh:r≠ .hand) (R:Root):Bw w w a a E (E.setRoot r (JM cs j (A7 b))) blk blk R:=by
 have d:(E.setRoot r<|JM cs j<|A7 b).ver=E.ver:=by cases r<;>rfl
 have f:(E.setRoot r<|JM cs j<|A7 b).gen=E.gen:=by cases r<;>rfl
 have g:(JM cs j<|A7 b).length=cs.length:=by simp[JM,hj]
 have c:∀cs0,E.root R=some cs0->∃cs1,(E.setRoot r<|JM cs j<|A7 b).root R=some cs1/\∀q r1,Bg cs0 q=some r1->∀i:Nat,∃r2,Bg cs1 q=some r2/\(r1[i]?.isSome=true->r2[i]?.isSome=true)/\(F7 r1[i]?=true->F7 r2[i]?=true):=by
  intro cs0 h0;by_cases hR:R=r
  ·subst hR;rw[hr]at h0
   injection h0 with h0
   subst h0;refine⟨JM cs j<|A7 b,?_,λq r1 hq i=>dW hj hq i⟩
   cases R with
   |slot n=>
    simp only[St.root,St.setRoot,Bp,Do]at hr⊢
    injection hr with hr
    congr 1
    cases hs:E.slots n with
    |one t=>
     rw[hs]at hr;subst hr;have:(JM [t] j<|A7 b).length=1:=g
     match hf:JM [t] j (A7 b),this with
     |[x],_=>rfl
    |agg ts=>rfl
    |tup ss=>
     simp only[SV.cells]at hr
     grind
   |box n=>simp[St.root,St.setRoot,Bp]
   |ext n=>simp[St.root,St.setRoot,Bp]
   |hand=>exact absurd rfl hh
  refine⟨cs0,?_,λq r1 hq i=>⟨r1,hq,id,id⟩⟩;rw[<-h0];cases r<;>cases R<;>simp only[St.root,St.setRoot,Bp]<;>first
   |exact absurd rfl hh
   |rfl
   |grind
   |(rw[AA];intro e;injection e with e;exact hR<|by rw[e])
   |(rw[AA];intro e;cases e)
 constructor
 ·refine .inr ⟨by rw[d],λq i v h1 h2=>⟨h1,?_⟩,λq i ad hq h1 h2=>⟨h1,?_⟩⟩
  ·unfold St.place at h2⊢
   cases h0:E.root R with
   |none=>rw[h0]at h2;cases h2
   |some cs0=>
    rw[h0]at h2;obtain⟨cs1,k1,k2⟩:=c cs0 h0;simp only[Aa]at h2
    cases hc:Bg cs0 q with
    |none=>rw[hc]at h2;cases h2
    |some r1=>
     obtain⟨r2,k3,_,k4⟩:=k2 q r1 hc i
     grind
  unfold St.place at h2⊢
  cases h0:E.root R with
  |none=>grind
  |some cs0=>
   rw[h0]at h2;obtain⟨cs1,k1,k2⟩:=c cs0 h0;simp only[Aa]at h2
   cases hc:Bg cs0 q with
   |none=>grind
   |some r1=>
    obtain⟨r2,k3,k4,_⟩:=k2 q r1 hc i
    grind
 refine .inr ⟨by rw[f],λi ad h1 h2=>⟨h1,?_⟩⟩;unfold St.place at h2⊢
 cases h0:E.root R with
 |none=>grind
 |some cs0=>
  rw[h0]at h2;obtain⟨cs1,k1,k2⟩:=c cs0 h0;obtain⟨r2,k3,k4,_⟩:=k2 [] cs0 rfl i;rw[k1];simp only[Aa,k3];exact k4 h2
section
variable {w0:Base} {FA:List Nat} {UA:List Nat} {a:Act} {FS:Root->List Nat} {US:Root->List Nat}
theorem Ca.freezeI {r:Root} {s:Nat} (h:Ca w0 FA UA N w a E blk FS US) {cs:List TV} {c:List TV} (hr:E.root r=some cs) (hj:cs[j]?=some (.sl true e s c)) (hh:r≠ .hand):
  ∃FS' US',Ca w0 FA UA N w a (E.setRoot r (JM cs j (A7 c))) blk FS' US'/\FS' .hand=FS .hand/\US' .hand=US .hand:=by
 have x:=Yq (w:=w) (a:=a) (blk:=blk) hr hj hh;have g:JM cs j (A7 c)=cs.set j (.sl true e s<|A7 c):=by simp only[JM,hj,WJ]
 have i:∀v F1 U1,F1.Nodup->DD w (.sl true e s c) v F1 U1->∃F2 U2,DD w (.sl true e s<|A7 c) v F2 U2/\CN F1 U1 F2 U2:=λv F1 U1 o h1=>by
  obtain⟨n,vs,F',ho,y,rfl⟩:=h1;obtain⟨U',z,hU'⟩:=LN y
  exact⟨Cy v++ [],U',⟨n,vs,[],ho,z,rfl⟩,by
   refine⟨by simp,λb hb=>?_⟩
   rcases hU' b hb with q|q
   ·right;have:=(Bx.1 o).2.2
    grind
   exact .inl q⟩
 have h0:∃F' U',CN (FS r) (US r) F' U'/\(∀n,r= .slot n->GI w a (E.setRoot r<|JM cs j<|A7 c) blk ((E.slots n).withCells<|JM cs j<|A7 c) (a.eval<|.tmp n) F' U')/\
   (r.mem=true->∃d T F,w.heap[blk r]?=some (.cells d T (0,0))/\Bh w (JM cs j<|A7 c) d.toList F U'/\F'=blk r::F):=by
  cases r with
  |slot n=>
   injection hr with hr
   have hs:=Ek x (h.slot n) (λ_ _=>rfl) λ_ _=>rfl
   cases l:E.slots n with
   |one t=>
    rw[l]at hr hs;simp only[SV.cells]at hr;subst hr;have h2:j=0:=by grind
    subst h2;simp at hj;subst hj;obtain⟨F2,U2,k1,k2⟩:=i _ _ _ (h.nodup _) hs.1;refine⟨F2,U2,k2,λm hm=>?_,λhm=>by cases hm⟩
    injection hm with hm
    subst hm;rw[l,g];exact⟨k1,λ_=>hs.2 rfl⟩
   |agg ts=>
    rw[l]at hr hs;simp only[SV.cells]at hr;subst hr;obtain⟨vs,k0,k1⟩:=hs;obtain⟨F2,U2,k2,k3⟩:=Rr (t':= .sl true e s (A7 c)) k1 hj (h.nodup _) i;refine⟨F2,U2,k3,λm hm=>?_,λhm=>by cases hm⟩
    injection hm with hm
    subst hm;rw[l,g];simp only[SV.withCells,GI]
    grind
   |tup ss=>
    simp only[SV.cells]at hr
    grind
  |hand=>exact absurd rfl hh
  |box n=>
   rcases h.box (.box n) rfl with⟨k,_⟩|⟨cs0,d,T,F,k1,k2,k3,k4⟩
   ·simp only[St.root]at hr;grind
   simp only[St.root]at hr;rw[k1]at hr
   injection hr with hr
   subst hr;have f:=h.nodup<|.box n;rw[k4]at f;obtain⟨o,p⟩:=Dj.1 f;obtain⟨F2,U2,k5,k6⟩:=Qo (t':= .sl true e s (A7 c)) k3 hj p i;refine⟨blk (.box n)::F2,U2,?_,λm hm=>(by cases hm),λ_=>⟨d,T,F2,k2,by rw[g];exact k5,rfl⟩⟩;rw[k4];refine⟨k6.1.cons_cons _,λb hb=>?_⟩
   rcases k6.2 b hb with q|⟨q1,q2⟩
   ·exact .inl q
   grind
  |ext n=>
   rcases h.box (.ext n) rfl with⟨k,_⟩|⟨cs0,d,T,F,k1,k2,k3,k4⟩
   ·simp only[St.root]at hr;grind
   simp only[St.root]at hr;rw[k1]at hr
   injection hr with hr
   subst hr;have f:=h.nodup<|.ext n;rw[k4]at f;obtain⟨o,p⟩:=Dj.1 f;obtain⟨F2,U2,k5,k6⟩:=Qo (t':= .sl true e s (A7 c)) k3 hj p i;refine⟨blk (.ext n)::F2,U2,?_,λm hm=>(by cases hm),λ_=>⟨d,T,F2,k2,by rw[g];exact k5,rfl⟩⟩;rw[k4];refine⟨k6.1.cons_cons _,λb hb=>?_⟩
   rcases k6.2 b hb with q|⟨q1,q2⟩
   ·exact .inl q
   grind
 obtain⟨F',U',hl,h3,h4⟩:=h0
 have u:∀b∈F',b∈FS r:=λb hb=>hl.1.subset hb
 refine⟨Bp FS r F',Bp US r U',?_,by rw[AI λe=>hh e.symm],by rw[AI λe=>hh e.symm]⟩;have hF:∀R b,b∈Bp FS r F' R->b∈FS R:=by
  intro R b hb;by_cases hR:R=r
  ·subst hR;rw[Bm]at hb;exact u b hb
  rw[AI hR]at hb;exact hb
 have hU:∀R b,b∈Bp US r U' R->b∈US R\/(R=r/\b∈FS r/\b∉F'):=by
  intro R b hb;by_cases hR:R=r
  ·subst hR;rw[Bm]at hb
   rcases hl.2 b hb with q|⟨q1,q2⟩
   ·exact .inl q
   grind
  rw[AI hR]at hb;exact .inl hb
 constructor
 ·intro n;by_cases hn:r= .slot n
  ·subst hn;have:=h3 n rfl;simpa only[St.setRoot,Bp,Do]using this
  rw[AI λe=>hn e.symm,AI λe=>hn e.symm];have h1:(E.setRoot r<|JM cs j<|A7 c).slots n=E.slots n:=by
   cases r with
   |slot m=>
    simp only[St.setRoot,Bp]
    grind
   |_=>rfl
  rw[h1];exact Ek x (h.slot n) (λ_ _=>rfl) λ_ _=>rfl
 ·intro R hm;by_cases hR:R=r
  ·subst hR;right;obtain⟨d,T,F,k1,k2,k3⟩:=h4 hm;refine⟨_,d,T,F,?_,k1,by rw[Bm];exact k2,by rw[Bm,k3]⟩
   cases R with
   |slot n=>cases hm
   |hand=>cases hm
   |box n=>simp[St.setRoot,Bp]
   |ext n=>simp[St.setRoot,Bp]
  rw[AI hR,AI hR];have h1:(E.setRoot r<|JM cs j<|A7 c).boxes R=E.boxes R:=by
   cases r<;>simp only[St.setRoot,Bp]<;>first
    |rfl
    |(rw[AA hR])
  rw[h1];exact h.box R hm
 ·have:(E.setRoot r<|JM cs j<|A7 c).boxes .hand=E.boxes .hand:=by
   cases r<;>simp only[St.setRoot,Bp]<;>first
    |exact absurd rfl hh
    |rfl
    |(rw[AA<|by simp])
  rw[this];exact h.nohand
 ·intro R;by_cases hR:R=r
  ·subst hR;rw[Bm];exact hl.1.nodup<|h.nodup R
  rw[AI hR];exact h.nodup R
 ·exact λR S h5 b hb hb'=>h.dis R S h5 b (hF R b hb)<|hF S b hb'
 ·intro R S b hb hb'
  rcases hU S b hb' with q|⟨rfl,q1,q2⟩
  ·exact h.disU R S b (hF R b hb) q
  by_cases hR:R=S
  ·subst hR;rw[Bm]at hb;exact q2 hb
  exact h.dis R S hR b (hF R b hb) q1
 ·exact λR b hb=>h.inF R b<|hF R b hb
 ·intro R b hb
  rcases hU R b hb with q|⟨rfl,q1,_⟩
  ·exact h.inU R b q
  obtain⟨q2,q3⟩:=h.inF R b q1
  grind
 ·exact h.disA
 ·exact h.os
 ·exact h.tape
 ·exact h.output
 ·exact h.size
 ·exact h.keep
 ·exact h.len
 ·exact h.nodef
 ·exact h.xblk
 ·rw[Cv];exact h.ambB
 ·rw[Cv];exact h.ambI
 ·rw[Fi];exact h.frz
 ·exact h.ambF
 rw[Cv];exact h.pin
end
theorem oR {r:Root} (h:K7 E r j=some row):∃cs e s,E.root r=some cs/\cs[j]?=some (.sl true e s row)/\oS E r j (A7 row)=E.setRoot r (JM cs j (A7 row)):=by
 obtain⟨cs,e,s,h1,h2,_⟩:=Ku h;exact⟨cs,e,s,h1,h2,by unfold oS;rw[h1]⟩
theorem pC {row':List TV} (r:Root) (j:Nat) (hs:A7 row=row') (h:RW P N ops i (oS E r j row') Q) (ho:K7 E r j=some row:=by kernel_rfl) (hh:P4 r=true:=by rfl):RW P N ops i E Q:=by
 intro w0 FA UA w a blk FS US hr hF hU;obtain⟨cs,e,s,h1,h2,h3⟩:=oR ho;obtain⟨FS',US',k1,k2,k3⟩:=hr.freezeI h1 h2<|LR hh;rw[<-hs,h3]at h;exact h _ _ _ _ _ _ _ _ k1 (by rw[k2,hF])<|by rw[k3,hU]
theorem YU {md:Region.Mode} {Q:Exit->Act->World->Prop} {T:Nat->Bool} {oi:Oper} {v:Value} (hi:ops[i]?=some oi) (l:∀(j:Nat) (o:Oper) cs b,ops[j]?=some o->o.op≠ .select cs b) (hQ:∀c a w,Q (.panic c) (a.put oi.dst v) w->Q (.panic c) a w):
  ∀(d:Nat) (listed:Array Bool) (a:Act) (w:World),
   (∀j oj,ops[j]?=some oj->j≠i->listed.getD j true=false->(∀e∈oj.after,Region.binds md e=true->e.on≠i)->oi.apart ops oj=true)->
   i∈Region.ready md ops listed->YieldsIf P ops (λ_=>True) oi v a->
   Ox P md ops Q T d (listed.setIfInBounds i true) (a.put oi.dst v) w->Ox P md ops Q T (d+1) listed a w:=by
 intro d
 induction d with
 |zero=>
  intro listed a w _ hr hy H;refine⟨λh=>(by grind),λj hj=>?_⟩;by_cases f:j=i
  ·subst f;exact hy.wpOp hi trivial ⟨λ_=>CB.refl,H⟩
  have:=ready_mono hj f;rw[H.1]at this;cases this
 |succ d ih=>
  intro listed a w g hr hy H;refine⟨λh=>(by grind),λj hj=>?_⟩;by_cases f:j=i
  ·subst f;exact hy.wpOp hi trivial ⟨λ_=>CB.refl,H⟩
  have h1:=H.2 j<|ready_mono hj f;obtain⟨m,oj,n,p⟩:=mem_ready.1 hj;have q:listed.getD i false=false:=by
   have h0:=(mem_ready.1 hr).1
   rcases R8 i listed.size with h'|h'
   ·simpa[h']using h0
   grind
  have r:∀e∈oj.after,Region.binds md e=true->e.on≠i:=λe he hb u=>by
   have h1:=p e he hb;rw[u,q]at h1;cases h1
  have h2:=wpOp_putIf n (g j oj n f m r) (λcs b=>l i oi cs b hi) (λcs b=>l j oj cs b n) hQ hy h1;have hfree':∀k ok,ops[k]?=some ok->k≠i->(listed.setIfInBounds j true).getD k true=false->
    (∀e∈ok.after,Region.binds md e=true->e.on≠i)->oi.apart ops ok=true:=λk ok hk x s y=>by
   refine g k ok hk x ?_ y;by_cases t:j=k
   ·subst t;exact m
   rw[getD_set_ne true t]at s;exact s
  refine wpOp_mono (λa' w' h3=>⟨h3.2.1,ih (listed.setIfInBounds j true) a' w' hfree' (ready_mono hr<|If f) ?_ ?_⟩) h2
  ·exact h3.1
  rw[Array.setIfInBounds_comm _ _ f];exact h3.2.2
def ZP (o:Oper):Bool:=match o.op with
 | .move _| .assign _=>true
 |_=>false
theorem ZO {o:Oper} {w2:World} {v:Value} (h:ZP o=true) {a:Act} (hr:(execOp a.eval o).run P w= .ok (.value v) w):(execOp a.eval o).run P w2= .ok (.value v) w2:=by
 unfold ZP at h;unfold execOp at hr⊢;split at h
 ·rename_i x hx;simp only[hx]at hr⊢
  injection hr with hr
  injection hr with hr
  rw[hr];rfl
 ·rename_i x hx;simp only[hx]at hr⊢
  injection hr with hr
  injection hr with hr
  rw[hr];rfl
 cases h
def sS (P:Program) (N:Nat) (a:Array Oper) (dn:List Nat) (i:Nat) (E:St):Bool:=OF P a E i&&GW N (oA a i)&&Nat.blt dn.length a.size&&Region.noSelect a&&Region.free .any a (g6 a.size dn) i&&(Region.ready .any a<|g6 a.size dn).contains i&&ZP (oA a i)&&(EX P E<|oA a i).isSome
theorem KW.a {ts:List Nat} (i:Nat) (h:KW P N ops ts (i::dn) (E.put (oA ops i).dst ((EX P E (oA ops i)).getD (.one .junk))) Q) (hk:sS P N ops dn i E=true:=by kernel_rfl):KW P N ops ts dn E Q:=by
 simp only[sS,Al]at hk;obtain⟨⟨⟨⟨⟨⟨⟨h1,h2⟩,h3⟩,e1⟩,e2⟩,e3⟩,e4⟩,e5⟩:=hk;obtain⟨h5,h6⟩:=FX h1;obtain⟨d,h7,h8,_⟩:=D6 h2;obtain⟨s,hs⟩:=IS.1 e5;rw[hs,CL,h7]at h;unfold KW at h⊢;rw[NK (i:=i) h3];have ho:=EY h5;intro hQ hc w0 FA UA w a blk FS US k1 k2 k3;obtain⟨v,U,y1,y2,y3⟩:=O1 k1 hs;have e3':i∈Region.ready .any ops (g6 ops.size dn):=by simpa using e3
 refine YU (v:=v) ho (Region.noSelect_spec e1) (λc a w hx=>?_) _ (g6 ops.size dn) a w (Region.free_spec ho e2) e3' (.inl ⟨Ch k1 h6,λw2 _=>?_⟩) ?_
 ·obtain⟨E',blk',FS',US',m1,_⟩:=hx
  grind
 ·exact ZO e4<|y1 w λr _=>⟨λ_ _=>rfl,λ_ _=>rfl⟩
 rw[h7];refine h hQ (GA hc e3') _ _ _ _ _ _ _ _ (k1.put (by simpa[Lj]using h8) y2<|Jt k1 y3 _) ?_ ?_
 ·rw[AI (by simp),k2]
 rw[AI (by simp),k3]
theorem KH {n:Int} (h1: -9223372036854775808<=n) (h2:n<=9223372036854775807):IntKind.i64.wrap n=n:=by rw[IntKind.wrap_i64];omega
theorem BN {a b:Int} (h1: -9223372036854775808<=a+b:=by omega) (h2:a+b<=9223372036854775807:=by omega):ad a b=a+b:=KH h1 h2
theorem BH {a b:Int} (h1: -9223372036854775808<=a-b:=by omega) (h2:a-b<=9223372036854775807:=by omega):sb a b=a-b:=KH h1 h2
theorem KT {a b:Int} (h1: -9223372036854775808<=a*b) (h2:a*b<=9223372036854775807):ml a b=a*b:=KH h1 h2
theorem ad1 (h:i<9223372036854775807:=by omega):ad (i:Int) 1=((i+1:Nat):Int):=by grind [BN]
theorem J4 (a b:ByteArray):seq a b=decide (a=b):=by
 unfold seq;rw[Bool.eq_iff_iff,HA,Br];constructor
 ·intro h;rw[ByteArray.toList_eq,ByteArray.toList_eq]at h;cases a;simp_all
 intro h;rw[h]
theorem Ar:gi l (i:Int)=l[i]? :=by rfl
theorem Ea {x:α}:si l (i:Int) x=l.set i x:=by simp[si]
theorem IV:decide ((i:Int)<ln l)=decide (i<l.length):=by
 simp[ln]
theorem cF [Decidable p] {a b:α} (h:¬p:=by omega):cond (decide p) a b=b:=by grind
theorem cT [Decidable p] {a b:α} (h:p:=by omega):cond (decide p) a b=a:=by grind
theorem Fe {a b:β}:cond (decide (((l.length:Nat):Int)<ln l)) a b=b:=cF (by rw[ln];omega)
theorem FN {a b:β} (h:i<l.length):cond (decide ((i:Int)<ln l)) a b=a:=cT (by rw[ln];omega)
def Mw (step:σ->Nat->α->σ⊕β) (fin:σ->β):List α->Nat->σ->β
 |[],_,s=>fin s
 |x::l,i,s=>match step s i x with
  | .inl s'=>Mw step fin l (i+1) s'
  | .inr b=>b
theorem Vw {body:S->Option (S⊕β)} (a:σ->Int->S) (l:List α) (step:σ->Nat->α->σ⊕β) (fin:σ->β) (c:Nat->σ->Prop) (h1:∀s i x,l[i]?=some x->c i s->body (a s (i:Nat))=some (match step s i x with| .inl s'=> .inl (a s' ((i+1:Nat):Int))| .inr b=> .inr b)/\∀s',step s i x= .inl s'->c (i+1) s') (h2:∀s,c l.length s->body (a s (l.length:Nat))=some (.inr (fin s))):∀(n i:Nat) (s:σ),i+n=l.length->c i s->Ai body (a s (i:Nat))=some (Mw step fin (l.drop i) i s)
 |0,i,s,hi,hs=>by
  have:i=l.length:=by omega
  subst this;rw[Aw,h2 s hs,Eg<|A5 _];rfl
 |n+1,i,s,hi,hs=>by
  have d:i<l.length:=by omega
  obtain⟨h3,h4⟩:=h1 s i l[i] (Ab d) hs;rw[Aw,h3,AS d,Mw]
  cases e:step s i l[i]with
  |inl s'=>simp only[];exact Vw a l step fin c h1 h2 n (i+1) s' (by omega)<|h4 s' e
  |inr b=>rfl
theorem LU {body:S->Option (S⊕β)} (a:σ->Int->S) (l:List α) (step:σ->Nat->α->σ⊕β) (fin:σ->β) (c:Nat->σ->Prop) (h1:∀s i x,l[i]?=some x->c i s->body (a s (i:Nat))=some (match step s i x with| .inl s'=> .inl (a s' ((i+1:Nat):Int))| .inr b=> .inr b)/\∀s',step s i x= .inl s'->c (i+1) s') (h2:∀s,c l.length s->body (a s (l.length:Nat))=some (.inr (fin s))) (hs:c 0 s):Ai body (a s 0)=some (Mw step fin l 0 s):=
 Vw a l step fin c h1 h2 l.length 0 s (by omega) hs
def zl (z:α->Nat) (l:List α):Nat:=l.length+(l.map z).sum
theorem eW {z:α->Nat} {x:α} (h:x∈l):z x+1<=zl z l:=by
 unfold zl
 induction l with
 |nil=>cases h
 |cons y l ih=>grind
theorem eX {z:α->Nat}:l.length<=zl z l:=by unfold zl;omega
theorem cA {body:Int->Option (Int⊕Unit⊕Bool)} (a:List α) (b:List β) (p:α->β->Bool) (hl:a.length=b.length) (hM:a.length<=9223372036854775807) (h1:∀(i:Nat) x y,a[i]?=some x->b[i]?=some y->body (i:Nat)=some (bif p x y then .inl (((i+1:Nat)):Int)else .inr (.inr false))) (h2:body (a.length:Nat)=some (.inr (.inl ()))):
  Ai body 0=some (bif(a.zip b).all (λz=>p z.1 z.2)then .inl ()else .inr false):=by
 have hz:(a.zip b).length=a.length:=by simp[hl]
 have:=LU (body:=body) (λ(_:Unit) i=>i) (a.zip b) (λ_ _ z=>bif p z.1 z.2 then .inl ()else .inr<|.inr false) (λ_=> .inl ()) (λ_ _=>True)
  (λs i x hx _=>by grind)
  (λs _=>by rw[hz];exact h2) (s:=()) trivial
 rw[this];have c:∀(m:List (α×β)) (i:Nat),Mw (λ(_:Unit) _ z=>bif p z.1 z.2 then .inl ()else .inr<|.inr false) (λ_=>(.inl ():Unit⊕Bool)) m i ()=bif m.all (λz=>p z.1 z.2)then .inl ()else .inr false:=by
  intro m
  induction m with
  |nil=>intro i;rfl
  |cons z m ih=>grind [Mw]
 rw[c]
theorem aK {p:α->α->Bool}:∀{a b:List α},(∀x∈a,∀y∈b,p x y=true↔x=y)->a.length=b.length->((a.zip b).all (λz=>p z.1 z.2)=true↔a=b)
 |[],[],_,_=>by simp
 |x::a,y::b,hp,h=>by
  have ih:=aK (p:=p) (a:=a) (b:=b) (λx' hx y' hy=>hp x' (List.mem_cons_of_mem _ hx) y'<|List.mem_cons_of_mem _ hy) (by simpa using h);simp_all
 |[],_::_,_,h=>by simp at h
 |_::_,[],_,h=>by simp at h
theorem P8 {body:S->Option (S⊕β)} (a:σ->Int->S) (n:Nat) (c:Nat->σ->Prop) (Q:β->Prop) (h1:∀s i,i<n->c i s->(∃s',body (a s (i:Nat))=some (.inl (a s' ((i+1:Nat):Int)))/\c (i+1) s')\/∃b,body (a s (i:Nat))=some (.inr b)/\Q b) (h2:∀s,c n s->∃b,body (a s (n:Nat))=some (.inr b)/\Q b):∀(k i:Nat) (s:σ),i+k=n->c i s->∃b,Ai body (a s (i:Nat))=some b/\Q b
 |0,i,s,hi,hs=>by grind [Aw]
 |k+1,i,s,hi,hs=>by
  rcases h1 s i (by omega) hs with⟨s',h3,h4⟩|⟨b,h3,h4⟩
  ·obtain⟨b,h5,h6⟩:=P8 a n c Q h1 h2 k (i+1) s' (by omega) h4
   grind [Aw]
  grind [Aw]
theorem AG {body:S->Option (S⊕β)} (a:σ->Int->S) (n:Nat) (c:Nat->σ->Prop) (Q:β->Prop) (h1:∀s i,i<n->c i s->(∃s',body (a s (i:Nat))=some (.inl (a s' ((i+1:Nat):Int)))/\c (i+1) s')\/∃b,body (a s (i:Nat))=some (.inr b)/\Q b) (h2:∀s,c n s->∃b,body (a s (n:Nat))=some (.inr b)/\Q b) (hs:c 0 s):∃b,Ai body (a s 0)=some b/\Q b:=
 P8 a n c Q h1 h2 n 0 s (by omega) hs
theorem Vx {body body':S->Option (S⊕β)} (a:σ->Int->S) (n:Nat) (c:Nat->σ->Prop) (Q:β->Prop) (h1:∀s i,i<n->c i s->body' (a s (i:Nat))=body (a s (i:Nat))/\((∃s',body (a s (i:Nat))=some (.inl (a s' ((i+1:Nat):Int)))/\c (i+1) s')\/∃b,body (a s (i:Nat))=some (.inr b)/\Q b)) (h2:∀s,c n s->body' (a s (n:Nat))=body (a s (n:Nat))/\∃b,body (a s (n:Nat))=some (.inr b)/\Q b):∀(k i:Nat) (s:σ),i+k=n->c i s->∃b,Ai body (a s (i:Nat))=some b/\Ai body' (a s (i:Nat))=some b/\Q b
 |0,i,s,hi,hs=>by grind [Aw]
 |k+1,i,s,hi,hs=>by
  obtain⟨e,h⟩:=h1 s i (by omega) hs
  rcases h with⟨s',h3,h4⟩|⟨b,h3,h4⟩
  ·obtain⟨b,h5,h6,h7⟩:=Vx a n c Q h1 h2 k (i+1) s' (by omega) h4
   grind [Aw]
  grind [Aw]
theorem Yg {body body':S->Option (S⊕β)} (a:σ->Int->S) (n:Nat) (c:Nat->σ->Prop) (Q:β->Prop) (h1:∀s i,i<n->c i s->body' (a s (i:Nat))=body (a s (i:Nat))/\((∃s',body (a s (i:Nat))=some (.inl (a s' ((i+1:Nat):Int)))/\c (i+1) s')\/∃b,body (a s (i:Nat))=some (.inr b)/\Q b)) (h2:∀s,c n s->body' (a s (n:Nat))=body (a s (n:Nat))/\∃b,body (a s (n:Nat))=some (.inr b)/\Q b) (hs:c 0 s):∃b,Ai body (a s 0)=some b/\Ai body' (a s 0)=some b/\Q b:=
 Vx a n c Q h1 h2 n 0 s (by omega) hs
theorem SU {body:Int->Option (Int⊕β)} (l:List α) (p:Nat->α->Bool) (no yes:β) (hM:l.length<=9223372036854775807) (h1:∀(i:Nat) x,l[i]?=some x->body (i:Nat)=some (bif p i x then .inl (((i+1:Nat)):Int)else .inr no)) (h2:body (l.length:Nat)=some (.inr yes)):
  Ai body 0=some (bif l.zipIdx.all (λz=>p z.2 z.1)then yes else no):=by
 have:=LU (body:=body) (λ(_:Unit) i=>i) l (λ_ i x=>bif p i x then .inl ()else .inr no) (λ_=>yes) (λ_ _=>True)
  (λs i x hx _=>by grind)
  (λs _=>h2) (s:=()) trivial
 rw[this];have a:∀(m:List α) (i:Nat),Mw (λ(_:Unit) i x=>bif p i x then .inl ()else .inr no) (λ_=>yes) m i ()=bif(m.zipIdx i).all (λz=>p z.2 z.1)then yes else no:=by
  intro m
  induction m with
  |nil=>intro i;rfl
  |cons z m ih=>grind [List.zipIdx_cons,Mw]
 rw[a]
theorem P7 {body:Int×List γ->Option ((Int×List γ)⊕List γ)} (l:List α) (f:α->γ) (h1:∀(i:Nat) x (a:List γ),l[i]?=some x->a.length=i->body ((i:Nat),a)=some (.inl (((i+1:Nat):Int),a++ [f x]))) (h2:∀a,body ((l.length:Nat),a)=some (.inr a)):
  Ai body (0,[])=some (l.map f):=by
 have:=LU (body:=body) (λ(s:List γ) i=>(i,s)) l (λa _ x=>(.inl (a++ [f x]):List γ⊕List γ)) (λa=>a) (λi a=>a.length=i)
  (λs i x hx hi=>by grind)
  (λs _=>h2 s) (s:=[]) rfl
 rw[this];have b:∀(m:List α) (i:Nat) (a:List γ),Mw (λa _ x=>(.inl (a++ [f x]):List γ⊕List γ)) (λa=>a) m i a=a++m.map f:=by
  intro m
  induction m with
  |nil=>grind [Mw]
  |cons z m ih=>grind [Mw]
 grind
theorem Z8 {body:Int×List γ->Option ((Int×List γ)⊕List γ)} (n:Nat) (f:Nat->γ) (h1:∀(i:Nat) (a:List γ),i<n->a.length=i->body ((i:Nat),a)=some (.inl (((i+1:Nat):Int),a++ [f i]))) (h2:∀a,body ((n:Nat),a)=some (.inr a)):
  Ai body (0,[])=some ((List.range n).map f):=
 P7 (List.range n) f (λi x a hx ho=>by grind) (λa=>by grind)
theorem W8 {z:α} (h:by_*n<=281474976710656) (h2:n<=9223372036854775807):mk by_ z (n:Int)=some (List.replicate n z):=by
 unfold mk
 grind
theorem B5 {m:List α} (h:(l.length+m.length)*by_<=140737488355328):ap by_ l m=some (l++m):=Bc h
theorem Mv {i:Int} (h1:0<=i) (h2:i<l.length):gi l i=some (l[i.toNat]'(by omega)):=by
 unfold gi
 grind
theorem Bu:ln l=(l.length:Int):=rfl
def L (s:ByteArray):List UInt8:=s.data.toList
theorem H5 {a b:ByteArray} (h:L a=L b):a=b:=by
 cases a;simp_all [L]
theorem TN (s:ByteArray):(L s).length=s.size:=by cases s;rfl
theorem FE (a b:ByteArray):L (a++b)=L a++L b:=by simp[L]
theorem D0 (l:List UInt8):L (bs l)=l:=by simp[L,bs]
theorem KG (l:List Int):L (Gy l)=l.map λn=>UInt8.ofNat n.toNat:=strOfNums_data l
theorem H6 (s:ByteArray) (i j:Nat):L (s.extract i j)=((L s).drop i).take (j-i):=by simp[L]
theorem Bf (s:ByteArray):Fd s=((L s).length:Int):=by rw[TN];rfl
theorem DF (s:ByteArray) (h:i<(L s).length):sx s (i:Int)=some (((L s)[i]).toNat:Int):=by
 have h':i<s.size:=by grind [TN]
 unfold sx;rw[Bc ⟨by omega,by omega⟩];unfold AF.bt;rw[dif_pos<|by simpa using h'];rfl
theorem Eh (s:ByteArray) (h1:i<=j) (h2:j<=(L s).length):sub s (i:Int) (j:Int)=some (s.extract i j):=by grind [TN,sub]
theorem FB (a b:ByteArray) (h:(L a).length+(L b).length<=9223372036854775807):Q8 a b=some (a++b):=by grind [TN,Q8]
theorem Mr (a b:ByteArray):seq a b=decide (L a=L b):=by grind [J4,H5]
def B3 (n:Nat):List UInt8:=if h:n<=127 then [UInt8.ofNat n]else UInt8.ofNat (n %128+128)::B3 (n/128)
termination_by n
decreasing_by omega
def DR:List UInt8->Nat
 |[]=>0
 |d::ds=>d.toNat %128+128*DR ds
theorem Kb:∀(ds es:List UInt8),DR (ds++es)=DR ds+128^ds.length*DR es
 |[],es=>by simp[DR]
 |d::ds,es=>by
  simp only[BV,DR,Kb ds es,AM,Nat.pow_succ]
  grind
theorem Xp (d:UInt8):d.toNat<256:=d.toNat_lt
theorem Md (h:n<=127):B3 n=[UInt8.ofNat n]:=by rw[B3,dif_pos h]
theorem Tw (h:¬n<=127):B3 n=UInt8.ofNat (n %128+128)::B3 (n/128):=by rw[B3,dif_neg h]
theorem UD:∀{ds:List UInt8} {x:UInt8},DR (ds++ [x])=0->x.toNat<128->x.toNat=0
 |[],x,h,hx=>by grind [DR]
 |d::ds,x,h,hx=>by
  simp only[BV,DR]at h;exact UD (ds:=ds) (by omega) hx
theorem V5:∀(ds:List UInt8) (x:UInt8),(∀d∈ds,128<=d.toNat)->x.toNat<128->(B3 (DR (ds++ [x]))=ds++ [x]↔¬(x.toNat=0/\ds≠ []))
 |[],x,_,hx=>by
  have:DR ([]++ [x])=x.toNat:=by simp[DR];omega
  rw[this,Md<|by omega];simp
 |d::ds,x,hd,hx=>by
  have ih:=V5 ds x (λe he=>hd e<|List.mem_cons_of_mem _ he) hx;have h1:=hd d Ey;have h2:=Xp d;have hv:DR (d::ds++ [x])=d.toNat-128+128*DR (ds++ [x]):=by grind [DR]
  rw[hv];by_cases h0:DR (ds++ [x])=0
  ·have a:=UD h0 hx;rw[h0,Md<|by omega];simp_all
  rw[Tw<|by omega]
  grind [UInt8.ofNat_toNat,DR]
theorem V6 {body:Int×List Int->Option ((Int×List Int)⊕(Int×List Int))} (hb:∀n a,body (n,a)=bif decide (n>127)then((ap 1 a [IntKind.u8.wrap (ad (Int.tmod n 128) 128)]).bind λc=>some (.inl (qu n 128,c)))else some (.inr (n,a))):
  ∀(n:Nat) (a:List Int),a.length+n<=1099511627776->∃(m:Nat) (o:List Int),Ai body ((n:Int),a)=some ((m:Int),o)/\m<=127/\o.length<=a.length+n/\(o++ [(m:Int)]).map (λn=>UInt8.ofNat n.toNat)=a.map (λn=>UInt8.ofNat n.toNat)++B3 n
 |n,a,h=>by
  rw[Aw,hb];by_cases hn:n<=127
  ·rw[Ag (by omega),Ad]
   grind [Md]
  rw[Ac (by omega),Ah,B5 (by grind),Aa];have e1:Int.tmod (n:Int) 128=((n %128:Nat):Int):=rfl;have e2:qu (n:Int) 128=((n/128:Nat):Int):=by grind [KH,qu]
  have e3:IntKind.u8.wrap (ad (Int.tmod (n:Int) 128) 128)=((n %128+128:Nat):Int):=by grind [BN,IntKind.wrap_u8]
  obtain⟨m,o,h1,h2,h3,h4⟩:=V6 hb (n/128) (a++ [((n %128+128:Nat):Int)]) (by grind);rw[e2,e3];refine⟨m,o,h1,h2,by grind,?_⟩
  grind [Tw]
termination_by n=>n
decreasing_by omega
theorem pV {s:Int} (h0:0<=s) (h1:s<4294967296):IntKind.u32.wrap (Int.tdiv s 2)=Int.fdiv s (2^(min (1:Int).toNat IntKind.u32.bits)):=by grind [IntKind.wrap_u32,IntKind.bits]
theorem tM {s:Int} (h0:0<=s) (h1:s<4294967296):an s 1=Int.tmod s 2:=by grind [DQ,IntKind.wrap_u32,an]
theorem mQ (a b:Int):0<=xr a b/\xr a b<4294967296:=by grind [IntKind.wrap_u32,xr]
theorem Vv {body:S->Option (S⊕β)} (a:σ->Int->S) (mkS':σ->Int->S') (n:Nat) (c:Nat->σ->Prop) (Q:β->Prop) (h1:∀s i,i<n->c i s->(∃s',body (a s (i:Nat))=some (.inl (a s' ((i+1:Nat):Int)))/\body' (mkS' s (i:Nat))=some (.inl (mkS' s' ((i+1:Nat):Int)))/\c (i+1) s')\/∃b,body (a s (i:Nat))=some (.inr b)/\body' (mkS' s (i:Nat))=some (.inr b)/\Q b) (h2:∀s,c n s->∃b,body (a s (n:Nat))=some (.inr b)/\body' (mkS' s (n:Nat))=some (.inr b)/\Q b):∀(k i:Nat) (s:σ),i+k=n->c i s->∃b,Ai body (a s (i:Nat))=some b/\Ai body' (mkS' s (i:Nat))=some b/\Q b
 |0,i,s,hi,hs=>by grind [Aw]
 |k+1,i,s,hi,hs=>by
  rcases h1 s i (by omega) hs with⟨s',h3,h4,h5⟩|⟨b,h3,h4,h5⟩
  ·obtain⟨b,h6,h7,h8⟩:=Vv a mkS' n c Q h1 h2 k (i+1) s' (by omega) h5
   grind [Aw]
  grind [Aw]
theorem KU {body:S->Option (S⊕β)} (a:σ->Int->S) (mkS':σ->Int->S') (n:Nat) (c:Nat->σ->Prop) (Q:β->Prop) (h1:∀s i,i<n->c i s->(∃s',body (a s (i:Nat))=some (.inl (a s' ((i+1:Nat):Int)))/\body' (mkS' s (i:Nat))=some (.inl (mkS' s' ((i+1:Nat):Int)))/\c (i+1) s')\/∃b,body (a s (i:Nat))=some (.inr b)/\body' (mkS' s (i:Nat))=some (.inr b)/\Q b) (h2:∀s,c n s->∃b,body (a s (n:Nat))=some (.inr b)/\body' (mkS' s (n:Nat))=some (.inr b)/\Q b) (hs:c 0 s):∃b,Ai body (a s 0)=some b/\Ai body' (mkS' s 0)=some b/\Q b:=
 Vv a mkS' n c Q h1 h2 n 0 s (by omega) hs
theorem Qm {body:S->Option (S⊕β)} (φ:S->S') (h:∀s,body' (φ s)=(body s).map (Sum.map φ id)):∀(n:Nat) (s:S),LH body' n (φ s)=LH body n s
 |0,_=>rfl
 |n+1,s=>by
  simp only[LH,h]
  cases body s with
  |none=>rfl
  |some o=>
   cases o with
   |inl s'=>exact Qm φ h n s'
   |inr b=>rfl
theorem Z9 {body:S->Option (S⊕β)} (φ:S->S') (h:∀s,body' (φ s)=(body s).map (Sum.map φ id)) (s:S):Ai body' (φ s)=Ai body s:=by
 have b:∀a,Ai body' (φ s)=some a↔Ai body s=some a:=λa=>by
  rw[ER,ER];exact⟨λ⟨n,hn⟩=>⟨n,by rw[<-Qm φ h];exact hn⟩,λ⟨n,hn⟩=>⟨n,by rw[Qm φ h];exact hn⟩⟩
 cases hx:Ai body s with
 |some a=>grind
 |none=>
  cases hy:Ai body' (φ s)with
  |none=>rfl
  |some a=>grind
theorem O8 {body:S->Option (S⊕β)} (φ:S->S') (I:S->Prop) (h:∀s,I s->body' (φ s)=(body s).map (Sum.map φ id)) (hI:∀s s',I s->body s=some (.inl s')->I s'):∀(n:Nat) (s:S),I s->LH body' n (φ s)=LH body n s
 |0,_,_=>rfl
 |n+1,s,hs=>by
  simp only[LH,h s hs]
  cases hb:body s with
  |none=>rfl
  |some o=>
   cases o with
   |inl s'=>exact O8 φ I h hI n s' (hI s s' hs hb)
   |inr b=>rfl
theorem Yh {body:S->Option (S⊕β)} (φ:S->S') (I:S->Prop) (h:∀s,I s->body' (φ s)=(body s).map (Sum.map φ id)) (hI:∀s s',I s->body s=some (.inl s')->I s') (s:S) (hs:I s):Ai body' (φ s)=Ai body s:=by
 have b:∀a,Ai body' (φ s)=some a↔Ai body s=some a:=λa=>by
  rw[ER,ER];exact⟨λ⟨n,hn⟩=>⟨n,by rw[<-O8 φ I h hI n s hs];exact hn⟩,λ⟨n,hn⟩=>⟨n,by rw[O8 φ I h hI n s hs];exact hn⟩⟩
 cases hx:Ai body s with
 |some a=>grind
 |none=>
  cases hy:Ai body' (φ s)with
  |none=>rfl
  |some a=>grind
theorem dN {s:S} {b:β} {body:S->Option (S⊕β)} (I:S->Prop) (Q:β->Prop) (hI:∀s s',I s->body s=some (.inl s')->I s') (hQ:∀s b,I s->body s=some (.inr b)->Q b) (hs:I s) (h:Ai body s=some b):Q b:=by
 obtain⟨n,hn⟩:=ER.1 h;clear h
 induction n generalizing s with
 |zero=>cases hn
 |succ n ih=>grind [LH]
theorem ST {body':S'->Option (S'⊕β')} {body:S->Option (S⊕β)} (a:σ->Int->S) (mkS':σ->Int->S') (n:Nat) (c:Nat->σ->Prop) (Q:β->β'->Prop) (h1:∀s i,i<n->c i s->(∃s',body (a s (i:Nat))=some (.inl (a s' ((i+1:Nat):Int)))/\body' (mkS' s (i:Nat))=some (.inl (mkS' s' ((i+1:Nat):Int)))/\c (i+1) s')\/∃b b',body (a s (i:Nat))=some (.inr b)/\body' (mkS' s (i:Nat))=some (.inr b')/\Q b b') (h2:∀s,c n s->∃b b',body (a s (n:Nat))=some (.inr b)/\body' (mkS' s (n:Nat))=some (.inr b')/\Q b b'):∀(k i:Nat) (s:σ),i+k=n->c i s->∃b b',Ai body (a s (i:Nat))=some b/\Ai body' (mkS' s (i:Nat))=some b'/\Q b b'
 |0,i,s,hi,hs=>by grind [Aw]
 |k+1,i,s,hi,hs=>by
  rcases h1 s i (by omega) hs with⟨s',h3,h4,h5⟩|⟨b,b',h3,h4,h5⟩
  ·obtain⟨b,b',h6,h7,h8⟩:=ST a mkS' n c Q h1 h2 k (i+1) s' (by omega) h5
   grind [Aw]
  grind [Aw]
theorem dM {body':S'->Option (S'⊕β')} {body:S->Option (S⊕β)} (a:σ->Int->S) (mkS':σ->Int->S') (n:Nat) (c:Nat->σ->Prop) (Q:β->β'->Prop) (h1:∀s i,i<n->c i s->(∃s',body (a s (i:Nat))=some (.inl (a s' ((i+1:Nat):Int)))/\body' (mkS' s (i:Nat))=some (.inl (mkS' s' ((i+1:Nat):Int)))/\c (i+1) s')\/∃b b',body (a s (i:Nat))=some (.inr b)/\body' (mkS' s (i:Nat))=some (.inr b')/\Q b b') (h2:∀s,c n s->∃b b',body (a s (n:Nat))=some (.inr b)/\body' (mkS' s (n:Nat))=some (.inr b')/\Q b b') (hs:c 0 s):∃b b',Ai body (a s 0)=some b/\Ai body' (mkS' s 0)=some b'/\Q b b':=
 ST a mkS' n c Q h1 h2 n 0 s (by omega) hs
theorem NJ {body body':S->Option (S⊕β)} (m:S->Nat) (a:S->Prop) (Q:β->Prop) (h:∀s,a s->(∃s',body s=some (.inl s')/\body' s=some (.inl s')/\a s'/\m s'<m s)\/∃b,body s=some (.inr b)/\body' s=some (.inr b)/\Q b):∀(n:Nat) (s:S),m s<=n->a s->∃b,Ai body s=some b/\Ai body' s=some b/\Q b
 |n,s,hn,hs=>by
  rcases h s hs with⟨s',h1,h2,h3,h4⟩|⟨b,h1,h2,h3⟩
  ·cases n with
   |zero=>omega
   |succ n=>
    obtain⟨b,h5,h6,h7⟩:=NJ m a Q h n s' (by omega) h3
    grind [Aw]
  grind [Aw]
theorem MF (z:α->Nat):∀(l:List α) (i:Nat) (h:i<l.length),((l.take (i+1)).map z).sum=((l.take i).map z).sum+z l[i]
 |[],i,h=>by simp at h
 |x::l,0,h=>by simp
 |x::l,i+1,h=>by
  simp only[List.take_succ_cons,GZ,List.sum_cons,List.getElem_cons_succ];rw[MF z l i (by simpa using h)];omega
theorem Kc (z:α->Nat) (l:List α) (i:Nat):((l.take i).map z).sum<=(l.map z).sum:=by grind [BF]
theorem l9 (a:List α) (x:α) (post:List α):gi (a++x::post) (a.length:Nat)=some x:=by grind [Ar]
theorem kG (a:List α) (x y:α) (post:List α):si (a++x::post) (a.length:Nat) y=a++y::post:=by grind [Ea]
noncomputable section
def Dq (lt:γ->γ->Bool) (xA:Int) (xB:Int) (xN:Int) (a:Int) (b:List γ):Option ((Int×List γ)⊕(List γ)):=cond (decide<|a<xN) ((cL b (ad xA a)<|ad xB a).bind λv1=>some<|.inl (ad a 1,v1))<|some<|.inr b
def C7 (lt:γ->γ->Bool) (xL:List γ) (xA:Int) (xB:Int) (xN:Int):Option (List γ):=(Ai (λs:Int×List γ=>Dq lt xA xB xN s.1 s.2) (0,xL)).bind λv2=>some v2
def Ei (lt:γ->γ->Bool) (xM:Int) (a:Int) (b:Int) (c:List γ):Option ((Int×Int×List γ)⊕(Int×List γ)):=cond (a !=b) (cond (decide<|a>b) ((C7 lt c (sb xM a) xM b).bind λv1=>some<|.inl (sb a b,b,v1))<|(C7 lt c (sb xM a) (sb (ad xM b) a) a).bind λv2=>some<|.inl (a,sb b a,v2))<|some<|.inr (a,c)
def FH (lt:γ->γ->Bool) (xL:List γ) (xA:Int) (xM:Int) (xB:Int):Option (List γ):=(Ai (λs:Int×Int×List γ=>Ei lt xM s.1 s.2.1 s.2.2) (sb xM xA,sb xB xM,xL)).bind λv3=>(C7 lt v3.2 (sb xM v3.1) xM v3.1).bind λv4=>some v4
def AR (lt:γ->γ->Bool) (xA:Int) (a:Int) (b:List γ):Option ((Int×List γ)⊕(List γ)):=(cond (decide<|a>xA) ((jT b a<|sb a 1).bind λv1=>some<|lt v1.1 v1.2) (some false):Option Bool).bind λj1=>cond j1 ((cL b a<|sb a 1).bind λv2=>some<|.inl (sb a 1,v2))<|some<|.inr b
def AZ (lt:γ->γ->Bool) (xA:Int) (xB:Int) (a:Int) (b:List γ):Option ((Int×List γ)⊕(List γ)):=cond (decide<|a<xB) ((Ai (λs:Int×List γ=>AR lt xA s.1 s.2) (a,b)).bind λv3=>some<|.inl (ad a 1,v3))<|some<|.inr b
def Cu (lt:γ->γ->Bool) (xL:List γ) (xA:Int) (xB:Int):Option (List γ):=(Ai (λs:Int×List γ=>AZ lt xA xB s.1 s.2) (ad xA 1,xL)).bind λv4=>some v4
def DB (lt:γ->γ->Bool) (xL:List γ) (xA:Int) (a:Int) (b:Int):Option ((Int×Int)⊕Int):=cond (decide<|a<b) ((jT xL (IntKind.i64.wrap<|Int.fdiv (IntKind.u64.wrap<|ad a b)<|2^(min (1:Int).toNat IntKind.u64.bits)) xA).bind λv1=>cond (lt v1.1 v1.2) (some<|.inl (ad (IntKind.i64.wrap<|Int.fdiv (IntKind.u64.wrap<|ad a b)<|2^(min (1:Int).toNat IntKind.u64.bits)) 1,b))<|some<|.inl (a,IntKind.i64.wrap<|Int.fdiv (IntKind.u64.wrap<|ad a b)<|2^(min (1:Int).toNat IntKind.u64.bits)))<|some<|.inr a
def CF (lt:γ->γ->Bool) (v2:Int) (a:Int) (b:List γ):Option ((Int×List γ)⊕(List γ)):=cond (decide<|a<(sb v2 1)) ((cL b a<|ad a 1).bind λv3=>some<|.inl (ad a 1,v3))<|some<|.inr b
def DA (lt:γ->γ->Bool) (xL:List γ) (xM:Int) (a:Int) (b:Int):Option ((Int×Int)⊕Int):=cond (decide<|a<b) ((jT xL xM<|IntKind.i64.wrap<|Int.fdiv (IntKind.u64.wrap<|ad a b)<|2^(min (1:Int).toNat IntKind.u64.bits)).bind λv5=>cond (!(lt v5.1 v5.2)) (some<|.inl (ad (IntKind.i64.wrap<|Int.fdiv (IntKind.u64.wrap<|ad a b)<|2^(min (1:Int).toNat IntKind.u64.bits)) 1,b))<|some<|.inl (a,IntKind.i64.wrap<|Int.fdiv (IntKind.u64.wrap<|ad a b)<|2^(min (1:Int).toNat IntKind.u64.bits)))<|some<|.inr a
def CE (lt:γ->γ->Bool) (v6:Int) (a:Int) (b:List γ):Option ((Int×List γ)⊕(List γ)):=cond (decide<|a>v6) ((cL b a<|sb a 1).bind λv7=>some<|.inl (sb a 1,v7))<|some<|.inr b
def D9 (lt:γ->γ->Bool) (xL:List γ) (xA:Int) (xM:Int) (xB:Int) (a:Int) (b:Int):Option ((Int×Int)⊕Int):=cond (decide<|a<b) ((jT xL (sb (sb (ad (IntKind.i64.wrap<|Int.fdiv (IntKind.u64.wrap<|ad xA xB)<|2^(min (1:Int).toNat IntKind.u64.bits)) xM) 1)<|IntKind.i64.wrap<|Int.fdiv (IntKind.u64.wrap<|ad a b)<|2^(min (1:Int).toNat IntKind.u64.bits))<|IntKind.i64.wrap<|Int.fdiv (IntKind.u64.wrap<|ad a b)<|2^(min (1:Int).toNat IntKind.u64.bits)).bind λv9=>cond (!(lt v9.1 v9.2)) (some<|.inl (ad (IntKind.i64.wrap<|Int.fdiv (IntKind.u64.wrap<|ad a b)<|2^(min (1:Int).toNat IntKind.u64.bits)) 1,b))<|some<|.inl (a,IntKind.i64.wrap<|Int.fdiv (IntKind.u64.wrap<|ad a b)<|2^(min (1:Int).toNat IntKind.u64.bits)))<|some<|.inr a
def Cb (lt:γ->γ->Bool):Nat->(List γ)->Int->Int->Int->Option (List γ)
 |0,_,_,_,_=>none
 |n+1,xL,xA,xM,xB=>cond ((sb xM xA)==1) ((Ai (λs:Int×Int=>DB lt xL xA s.1 s.2) (xM,xB)).bind λv2=>(Ai (λs:Int×List γ=>CF lt v2 s.1 s.2) (xA,xL)).bind λv4=>some v4) (cond ((sb xB xM)==1) ((Ai (λs:Int×Int=>DA lt xL xM s.1 s.2) (xA,xM)).bind λv6=>(Ai (λs:Int×List γ=>CE lt v6 s.1 s.2) (xM,xL)).bind λv8=>some v8) ((cond (decide (xM>(IntKind.i64.wrap (Int.fdiv (IntKind.u64.wrap (ad xA xB)) (2^(min (1:Int).toNat IntKind.u64.bits)))))) (some (sb (ad (IntKind.i64.wrap (Int.fdiv (IntKind.u64.wrap (ad xA xB)) (2^(min (1:Int).toNat IntKind.u64.bits)))) xM) xB,IntKind.i64.wrap (Int.fdiv (IntKind.u64.wrap (ad xA xB)) (2^(min (1:Int).toNat IntKind.u64.bits))))) (some (xA,xM)):Option (Int×Int)).bind λj1=>(Ai (λs:Int×Int=>D9 lt xL xA xM xB s.1 s.2) (j1.1,j1.2)).bind λv10=>(cond (decide (v10<xM)) (some (decide (xM<(sb (ad (IntKind.i64.wrap (Int.fdiv (IntKind.u64.wrap (ad xA xB)) (2^(min (1:Int).toNat IntKind.u64.bits)))) xM) v10)))) (some false):Option Bool).bind λj2=>(cond j2 ((FH lt xL v10 xM (sb (ad (IntKind.i64.wrap (Int.fdiv (IntKind.u64.wrap (ad xA xB)) (2^(min (1:Int).toNat IntKind.u64.bits)))) xM) v10)).bind λv11=>some v11) (some xL):Option (List γ)).bind λj3=>(cond (decide (xA<v10)) (some (decide (v10<(IntKind.i64.wrap (Int.fdiv (IntKind.u64.wrap (ad xA xB)) (2^(min (1:Int).toNat IntKind.u64.bits))))))) (some false):Option Bool).bind λj4=>(cond j4 ((Cb lt n j3 xA v10 (IntKind.i64.wrap (Int.fdiv (IntKind.u64.wrap (ad xA xB)) (2^(min (1:Int).toNat IntKind.u64.bits))))).bind λv12=>some v12) (some j3):Option (List γ)).bind λj5=>cond (decide ((IntKind.i64.wrap (Int.fdiv (IntKind.u64.wrap (ad xA xB)) (2^(min (1:Int).toNat IntKind.u64.bits))))<(sb (ad (IntKind.i64.wrap (Int.fdiv (IntKind.u64.wrap (ad xA xB)) (2^(min (1:Int).toNat IntKind.u64.bits)))) xM) v10))) (cond (decide ((sb (ad (IntKind.i64.wrap (Int.fdiv (IntKind.u64.wrap (ad xA xB)) (2^(min (1:Int).toNat IntKind.u64.bits)))) xM) v10)<xB)) ((Cb lt n j5 (IntKind.i64.wrap (Int.fdiv (IntKind.u64.wrap (ad xA xB)) (2^(min (1:Int).toNat IntKind.u64.bits)))) (sb (ad (IntKind.i64.wrap (Int.fdiv (IntKind.u64.wrap (ad xA xB)) (2^(min (1:Int).toNat IntKind.u64.bits)))) xM) v10) xB).bind λv13=>some v13) (some j5)) (some j5)))
def C9 (lt:γ->γ->Bool) (xN:Int) (b:Int) (a:Int) (c:List γ):Option ((Int×Int×List γ)⊕(Int×List γ)):=cond (decide<|a<=xN) ((Cu lt c b a).bind λv1=>some<|.inl (a,ad a 20,v1))<|some<|.inr (b,c)
def C8 (lt:γ->γ->Bool) (xN:Int) (a:Int) (c:Int) (b:Int) (d:List γ):Option ((Int×Int×List γ)⊕(Int×List γ)):=cond (decide<|b<=xN) ((Cb lt (List.length d+1) d c (ad c a) b).bind λv4=>some<|.inl (b,ad b<|ml 2 a,v4))<|some<|.inr (c,d)
def Dl (lt:γ->γ->Bool) (xN:Int) (a:Int) (b:List γ):Option ((Int×List γ)⊕(List γ)):=cond (decide<|a<xN) ((Ai (λs:Int×Int×List γ=>C8 lt xN a s.1 s.2.1 s.2.2) (0,ml 2 a,b)).bind λv5=>cond (decide<|(ad v5.1 a)<xN) ((Cb lt (List.length v5.2+1) v5.2 v5.1 (ad v5.1 a) xN).bind λv6=>some<|.inl (ml a 2,v6))<|some<|.inl (ml a 2,v5.2))<|some<|.inr b
def HK (lt:γ->γ->Bool) (xL:List γ) (xN:Int):Option (List γ):=(Ai (λs:Int×Int×List γ=>C9 lt xN s.1 s.2.1 s.2.2) (0,20,xL)).bind λv2=>(Cu lt v2.2 v2.1 xN).bind λv3=>(Ai (λs:Int×List γ=>Dl lt xN s.1 s.2) (20,v3)).bind λv7=>some v7
end
def srt (a:γ->Int) (l:List γ):Prop:=l.Pairwise λx y=>a x<=a y
section
variable (key:γ->Int)
def Bi (l r:List γ):Prop:=∀k,r.filter (λx=>key x==k)=l.filter (λx=>key x==k)
end
theorem Bi.refl (a:γ->Int) (l:List γ):Bi a l l:=λ_=>rfl
theorem Bi.trans (d:γ->Int) {a b c:List γ} (h:Bi d a b) (k:Bi d b c):Bi d a c:=λx=>(k x).trans<|h x
theorem El (e:γ->Int) {a b c d:List γ} (h:Bi e a b) (k:Bi e c d):Bi e (a++c) (b++d):=λx=>by rw[Cr,Cr,h,k]
section
variable (key:γ->Int)
theorem Bi.mem {x:γ} {a b:List γ} (h:Bi key a b):x∈b↔x∈a:=by
 have:=h<|key x;have e:x∈b.filter (λy=>key y==key x)↔x∈a.filter (λy=>key y==key x):=by rw[this]
 simpa using e
end
section
variable (key:γ->Int)
theorem Bi.nil {b:List γ} (h:Bi key [] b):b=[]:=by
 cases b with
 |nil=>rfl
 |cons x b=>exact absurd ((h.mem (x:=x)).1 Ey)<|by simp
end
theorem Lt (c:γ->Int) {a b:List γ} (h:∀x∈a,∀y∈b,c y<c x):Bi c (a++b) (b++a):=by
 intro k
 grind [Dd]
theorem OG (p:γ->Bool):∀l:List γ,l.length=(l.filter p).length+(l.filter λx=>!p x).length
 |[]=>rfl
 |x::l=>by
  have:=OG p l
  grind
section
variable (key:γ->Int)
theorem Bi.len {a b:List γ}:Bi key a b->a.length=b.length:=by
 intro h;have:∀(n:Nat) (a b:List γ),a.length<=n->Bi key a b->a.length=b.length:=by
  intro n
  induction n with
  |zero=>grind [Bi.nil]
  |succ n ih=>
   intro a b ha h
   cases a with
   |nil=>rw[h.nil]
   |cons x a=>
    have hp:(x::a).length=((x::a).filter λy=>key y==key x).length+((x::a).filter λy=>!(key y==key x)).length:=by
     exact OG _ _
    have c:b.length=(b.filter λy=>key y==key x).length+(b.filter λy=>!(key y==key x)).length:=by
     exact OG _ _
    have h1:Bi key ((x::a).filter λy=>!(key y==key x)) (b.filter λy=>!(key y==key x)):=by
     intro k;rw[Dz,Dz];by_cases hk:k=key x
     ·subst hk
      have z:∀l:List γ,l.filter (λy=>(key y==key x)&&!(key y==key x))=[]:=λl=>by simp
      rw[z,z]
     have z:∀l:List γ,l.filter (λy=>(key y==k)&&!(key y==key x))=l.filter (λy=>key y==k):=λl=>by grind
     rw[z,z];exact h k
    have h2:=ih _ _ (by grind) h1;rw[hp,c,h2,h<|key x]
 exact this a.length a b (A5 _) h
end
section
variable (key:γ->Int)
theorem O3:∀{a b:List γ},srt key a->srt key b->Bi key a b->a=b
 |[],b,_,_,h=>(h.nil key).symm
 |x::a,[],_,_,h=>by
  have:=h.len key;simp at this
 |x::a,y::b,ha,hb,h=>by
  have c:key x=key y:=by
   have h1:x∈y::b:=(h.mem key).2 Ey;have h2:y∈x::a:=(h.mem key).1 Ey;have k1:key y<=key x:=by
    rcases PU.1 h1 with rfl|h1
    ·exact HD _
    exact(BZ.1 hb).1 x h1
   have k2:key x<=key y:=by
    rcases PU.1 h2 with rfl|h2
    ·exact HD _
    exact(BZ.1 ha).1 y h2
   omega
  have e:=h<|key x;rw[List.filter_cons_of_pos (by simp[c]),List.filter_cons_of_pos<|by simp]at e
  injection e with e1 e2
  subst e1;have h':Bi key a b:=by
   intro k;have:=h k
   grind
  rw[O3 (BZ.1 ha).2 (BZ.1 hb).2 h']
end
theorem Ti (P S:List γ) (x:γ):gi (P++x::S) (P.length:Nat)=some x:=by grind [Ar]
theorem nR (P S:List γ) (x y:γ):si (P++x::S) (P.length:Nat) y=P++y::S:=by
 rw[Ea];simp
theorem aO (P M S:List γ) (x y:γ):cL (P++x::(M++y::S)) (P.length:Nat) ((P.length+1+M.length:Nat):Int)=some (P++y::(M++x::S)):=by
 unfold cL
 grind [Ti,nR]
theorem aP (P S:List γ) (x y:γ):cL (P++x::y::S) ((P.length+1:Nat):Int) (P.length:Nat)=some (P++y::x::S):=by simp_all [cL,gi,si];grind
theorem fD (P S:List γ) (x y:γ):cL (P++x::y::S) (P.length:Nat) ((P.length+1:Nat):Int)=some (P++y::x::S):=by
 have:=aO P [] S x y;simpa using this
theorem Lo:∀(X Y P M S:List γ),X.length=Y.length->P.length+X.length+M.length+Y.length+S.length<=1152921504606846976->
  C7 lt (P++X++M++Y++S) (P.length:Nat) ((P.length+X.length+M.length:Nat):Int) (X.length:Nat)=some (P++Y++M++X++S):=by
 have d:∀(n:Nat) (X Y P M S:List γ) (a b c i:Nat),X.length=n->Y.length=n->a+i=P.length->b+i=P.length+n+M.length->c=i+n->P.length+n+M.length+n+S.length<=1152921504606846976->
   Ai (λs:Int×List γ=>Dq lt (a:Int) (b:Int) (c:Int) s.1 s.2) ((i:Int),P++X++M++Y++S)=some (P++Y++M++X++S):=by
  intro n
  induction n with
  |zero=>grind [Aw,Dq]
  |succ n ih=>
   intro X Y P M S a b c i hX hY h1 h2 h3 hN
   cases X with
   |nil=>simp at hX
   |cons x X=>
   cases Y with
   |nil=>simp at hY
   |cons y Y=>
   simp only[AM]at hX hY;have hs:cL (P++(x::X)++M++(y::Y)++S) (ad (a:Int) (i:Int)) (ad (b:Int) (i:Int))=some (P++(y::X)++M++(x::Y)++S):=by
    have e1:ad (a:Int) (i:Int)=(P.length:Nat):=by rw[BN (by omega)<|by omega];omega
    have e2:ad (b:Int) (i:Int)=((P.length+1+(X++M).length:Nat):Int):=by rw[BN (by omega)<|by omega];grind
    have:=aO P (X++M) (Y++S) x y;rw[e1,e2];simpa using this
   rw[Aw];simp only[Dq];rw[Ac (by omega:(i:Int)<c),Ah,hs,Aa,ad1<|by omega];have:=ih X Y (P++ [y]) (M++ [x]) S a b c (i+1) (by omega) (by omega) (by simp;omega) (by simp;omega) (by omega) (by simp;omega);simp only[By,BV,Ao,Hb]at this⊢;exact this
 intro X Y P M S e hN;unfold C7;have:=d X.length X Y P M S P.length (P.length+X.length+M.length) X.length 0 rfl e.symm (by omega) (by omega) (by omega)<|by omega
 grind
theorem dA (P A B S:List γ) (hA:A≠ []) (hB:B≠ []) (hN:P.length+A.length+B.length+S.length<=1152921504606846976):
  FH lt (P++A++B++S) (P.length:Nat) ((P.length+A.length:Nat):Int) ((P.length+A.length+B.length:Nat):Int)=some (P++B++A++S):=by
 have g:∀(m:Nat) (Bd:Int×Int×List γ->Option ((Int×Int×List γ)⊕(Int×List γ))) (d:∀i j l,Bd (i,j,l)=Ei lt (m:Int) i j l) (k:Nat) (P U V S:List γ),U.length+V.length<=k->U≠ []->V≠ []->P.length+U.length=m->P.length+U.length+V.length+S.length<=1152921504606846976->
   ((
    Ai Bd ((U.length:Int),(V.length:Int),P++U++V++S)).bind λv3=>
    (C7 lt v3.2 (sb (m:Int) v3.1) (m:Int) v3.1).bind λv4=>some v4)=some (P++V++U++S):=by
  intro m Bd d k
  induction k with
  |zero=>simp_all
  |succ k ih=>
   intro P U V S hk hU hV hm hN;have lU:=IK.2 hU;have lV:=IK.2 hV;rw[Aw];simp only[d,Ei];have c:sb (m:Int) (U.length:Int)=(P.length:Nat):=by grind [BH]
   by_cases f:U.length=V.length
   ·have e:((U.length:Int) !=(V.length:Int))=false:=by simp[f]
    rw[e,Ad];simp only[Aa];rw[c];have:=Lo (lt:=lt) U V P [] S f (by simp;omega);simp_all
   have e:((U.length:Int) !=(V.length:Int))=true:=by simp;omega
   rw[e,Ah];by_cases n:U.length>V.length
   ·rw[Ac (by omega:(U.length:Int)>V.length),Ah,c];have h:U=U.take V.length++U.drop V.length:=(BF _ _).symm;have a:(U.take V.length).length=V.length:=by simp;omega
    have b:(U.drop V.length).length=U.length-V.length:=by simp
    have:=Lo (lt:=lt) (U.take V.length) V P (U.drop V.length) S a (by grind);rw[a,b,show P.length+V.length+(U.length-V.length)=m by omega]at this;have e3:P++U++V++S=P++U.take V.length++U.drop V.length++V++S:=by grind
    have e4:sb (U.length:Int) (V.length:Int)=((U.drop V.length).length:Int):=by rw[BH (by omega) (by omega),b];omega
    have:=ih (P++V) (U.drop V.length) (U.take V.length) S (by grind) (by grind) (by grind) (by grind)<|by grind
    grind
   rw[Ag (by omega:¬(U.length:Int)>V.length),Ad,c];have a:(V.take<|V.length-U.length).length=V.length-U.length:=by simp
   have b:(V.drop<|V.length-U.length).length=U.length:=by simp;omega
   have:=Lo (lt:=lt) U (V.drop<|V.length-U.length) P (V.take<|V.length-U.length) S b.symm (by grind);rw[a]at this;have e2:sb (ad (m:Int) (V.length:Int)) (U.length:Int)=((P.length+U.length+(V.length-U.length):Nat):Int):=by rw[BN (by omega) (by omega),BH (by omega)<|by omega];omega
   have e3:P++U++V++S=P++U++V.take (V.length-U.length)++V.drop (V.length-U.length)++S:=by simp
   rw[e2,e3,this,Aa];have e4:sb (V.length:Int) (U.length:Int)=((V.take<|V.length-U.length).length:Int):=by rw[BH (by omega) (by omega),a];omega
   have:=ih P (V.drop<|V.length-U.length) (V.take<|V.length-U.length) (U++S) (by grind) (by grind) (by grind) (by rw[b];omega)<|by grind
   grind [BF]
 have h1:sb ((P.length+A.length:Nat):Int) (P.length:Nat)=(A.length:Int):=by grind [BH]
 have h2:sb ((P.length+A.length+B.length:Nat):Int) ((P.length+A.length:Nat):Int)=(B.length:Int):=by grind [BH]
 unfold FH;rw[h1,h2];exact g (P.length+A.length) (λs=>Ei lt ((P.length+A.length:Nat):Int) s.1 s.2.1 s.2.2) (λ_ _ _=>rfl) _ P A B S (A5 _) hA hB rfl hN
def Mt (a:γ->Int) (x y:γ):Bool:=decide<|a x<a y
theorem dR (a:γ->Int) (P S:List γ) (y:γ) (B:Int×List γ->Option ((Int×List γ)⊕(List γ))) (hB:∀j l,B (j,l)=AR (Mt a) (P.length:Nat) j l):∀(n:Nat) (U V:List γ),U.length=n->srt a U->P.length+U.length+V.length+S.length<=1152921504606846976->
  ∃U1 U2,U=U1++U2/\Ai B (((P.length+U.length:Nat):Int),P++U++y::(V++S))=some (P++U1++y::(U2++V++S))/\(∀v∈U2,a y<a v)/\∀u∈U1,a u<=a y:=by
 intro n
 induction n with
 |zero=>
  intro U V hU _ hN;have:=Ba hU;simp_all [Aw,AR];grind
 |succ n ih=>
  intro U V hU hs hN
  rcases E5 U with rfl|⟨U0,z,rfl⟩
  ·simp at hU
  rw[Hc]at hU hs hN⊢;simp only[A3,Du]at hU hN;have hl:P.length+(U0++ [z]).length=(P++U0).length+1:=by simp;omega
  have e0:P++(U0++ [z])++y::(V++S)=(P++U0)++z::y::(V++S):=by simp
  have ej:sb (((P++U0).length+1:Nat):Int) 1=((P++U0).length:Nat):=by grind [BH]
  have g1:gi ((P++U0)++z::y::(V++S)) (((P++U0).length+1:Nat):Int)=some y:=by grind [Ti]
  have g2:jT ((P++U0)++z::y::(V++S)) (((P++U0).length+1:Nat):Int) ((P++U0).length:Nat)=some (y,z):=by grind [Ti,jT]
  by_cases b:a y<a z
  ·obtain⟨U1,U2,h1,h2,h3,h4⟩:=ih U0 (z::V) (by omega) (AH.1 hs).1 (by grind);refine⟨U1,U2++ [z],by rw[h1];simp,?_,?_,h4⟩
   ·rw[Aw,hB];simp only[AR];rw[hl,e0,Ac (by grind:(((P++U0).length+1:Nat):Int)>(P.length:Nat)),Ah,ej,g2];simp only[Aa,Mt];rw[Ac b,Ah,aP,Aa]
    grind
   grind
  refine⟨U0++ [z],[],by simp,?_,by simp,?_⟩
  ·grind [Aw,AR,Mt]
  intro u hu
  rcases Aq.1 hu with hu|hu
  ·have:=(AH.1 hs).2.2 u hu z (by simp);omega
  grind
section
variable (key:γ->Int)
theorem HY (P X S:List γ) (hN:P.length+X.length+S.length<=1152921504606846976):
  ∃X',Cu (Mt key) (P++X++S) (P.length:Nat) ((P.length+X.length:Nat):Int)=some (P++X'++S)/\srt key X'/\Bi key X X':=by
 have main:∀(b:Nat) (B:Int×List γ->Option ((Int×List γ)⊕(List γ))),(∀i l,B (i,l)=AZ (Mt key) (P.length:Nat) (b:Int) i l)->∀(n:Nat) (U V:List γ),V.length=n->P.length+U.length+V.length=b->srt key U->b+S.length<=1152921504606846976->
   ∃X',Ai B (((P.length+U.length:Nat):Int),P++U++V++S)=some (P++X'++S)/\srt key X'/\Bi key (U++V) X':=by
  intro b B hB n
  induction n with
  |zero=>grind [Bi.refl,Aw,AZ]
  |succ n ih=>
   intro U V hV hb hs hN
   cases V with
   |nil=>simp at hV
   |cons y V=>
    simp only[AM]at hV hb;obtain⟨U1,U2,h1,h2,h3,h4⟩:=dR key P (V++S) y (λs=>AR (Mt key) (P.length:Nat) s.1 s.2) (λ_ _=>rfl) U.length U [] rfl hs (by grind);have hs':srt key (U1++y::U2):=by
     rw[h1]at hs;obtain⟨q1,q2,q3⟩:=AH.1 hs;refine AH.2 ⟨q1,BZ.2 ⟨λv hv=>Int.le_of_lt<|h3 v hv,q2⟩,λu hu v hv=>?_⟩
     grind
    have hk:Bi key (U++ [y]) (U1++y::U2):=by
     rw[h1,By];have:=Lt key (a:=U2) (b:=[y]) (λx hx z hz=>by simp at hz;grind)
     grind [El,Bi.refl]
    have c:(U1++y::U2).length=U.length+1:=by grind
    obtain⟨X',r1,r2,r3⟩:=ih (U1++y::U2) V (by omega) (by rw[c];omega) hs' hN;refine⟨X',?_,r2,?_⟩
    ·rw[Aw,hB];simp only[AZ];rw[Ac (by omega:((P.length+U.length:Nat):Int)<(b:Int)),Ah];have e:P++U++y::V++S=P++U++y::([]++(V++S)):=by simp
     rw[e,h2,Aa,ad1<|by omega];simp only;rw[show P.length+U.length+1=P.length+(U1++y::U2).length by rw[c];omega]
     grind
    refine Bi.trans key ?_ r3
    grind [El,Bi.refl]
 unfold Cu;rw[ad1<|by omega]
 cases X with
 |nil=>
  refine⟨[],?_,List.Pairwise.nil,Bi.refl key _⟩
  grind [Aw,AZ]
 |cons x X=>
  obtain⟨X',h1,h2,h3⟩:=main (P.length+(x::X).length) (λs=>AZ (Mt key) (P.length:Nat) ((P.length+(x::X).length:Nat):Int) s.1 s.2) (λ_ _=>rfl) X.length [x] X rfl (by simp;omega) (Jw _ _)<|by omega
  grind
end
def Us (i j:Int):Int:=IntKind.i64.wrap<|Int.fdiv (IntKind.u64.wrap<|ad i j)<|2^(min (1:Int).toNat IntKind.u64.bits)
theorem W9 (i j:Nat) (h:i+j<=4611686018427387904):Us (i:Int) (j:Int)=(((i+j)/2:Nat):Int):=by
 unfold Us;rw[BN (by omega)<|by omega];have e1:IntKind.u64.wrap ((i:Int)+(j:Int))=((i+j:Nat):Int):=by
  have:IntKind.u64.wrap ((i:Int)+(j:Int))=((i:Int)+(j:Int)) %18446744073709551616:=by rfl
  grind
 grind [KH,IntKind.bits]
theorem WR {B:Int×Int->Option ((Int×Int)⊕Int)} (p:Nat->Bool) (lo hi:Nat) (h1:∀i j:Nat,lo<=i->i<j->j<=hi->B ((i:Int),(j:Int))=some (.inl (cond (p ((i+j)/2)) ((((i+j)/2+1:Nat):Int),(j:Int)) ((i:Int),(((i+j)/2:Nat):Int))))) (h2:∀i:Nat,B ((i:Int),(i:Int))=some (.inr (i:Int))):
  ∀(n i j:Nat),j-i<=n->lo<=i->i<=j->j<=hi->(lo<i->p (i-1)=true)->(j<hi->p j=false)->∃r:Nat,Ai B ((i:Int),(j:Int))=some (r:Int)/\lo<=r/\r<=hi/\(lo<r->p (r-1)=true)/\(r<hi->p r=false):=by
 intro n
 induction n with
 |zero=>
  intro i j hn hl a hh k1 k2;have:i=j:=by omega
  simp_all [Aw];grind
 |succ n ih=>
  intro i j hn hl a hh k1 k2;by_cases he:i=j
  ·subst he;exact⟨i,by rw[Aw,h2],hl,hh,k1,k2⟩
  rw[Aw,h1 i j hl (by omega) hh]
  cases hp:p ((i+j)/2)with
  |true=>
   exact ih ((i+j)/2+1) j (by omega) (by omega) (by omega) hh (λ_=>by grind) k2
  |false=>
   exact ih i ((i+j)/2) (by omega) hl (by omega) (by omega) k1 λ_=>hp
theorem WG (P X T:List γ) (k:Nat) (hk:k<X.length):gi (P++X++T) ((P.length+k:Nat):Int)=some X[k]:=by
 rw[Ar,By,HB (by omega),Nat.add_sub_cancel_left,List.getElem?_append_left hk,Ab hk]
theorem Pe (a:γ->Int) {X:List γ} {r:Nat} (h:srt a X) (h0:0<r) (hr:r<=X.length):∀u∈X.take r,a u<=a (X[r-1]'(by omega)):=by
 intro u hu;obtain⟨i,hi,e⟩:=Au hu;rw[List.getElem_take]at e;simp only[Ev]at hi;rw[<-e];by_cases b:i=r-1
 ·grind
 exact Dp.1 h i (r-1) (by omega) (by omega)<|by omega
theorem Pf (a:γ->Int) {X:List γ} {r:Nat} (h:srt a X) (hr:r<X.length):∀v∈X.drop r,a X[r]<=a v:=by
 intro v hv;obtain⟨i,hi,e⟩:=Au hv;rw[List.getElem_drop]at e;simp only[Lk]at hi;rw[<-e];by_cases b:i=0
 ·subst b;simp
 exact Dp.1 h r (r+i) (by omega) (by omega)<|by omega
theorem fX (a:γ->Int) (S:List γ) (x:γ) (v2:Nat) (B:Int×List γ->Option ((Int×List γ)⊕(List γ))) (hB:∀k l,B (k,l)=CF (Mt a) (v2:Int) k l):∀(Y P:List γ),P.length+Y.length+1=v2->v2<=1152921504606846976->
  Ai B ((P.length:Int),P++x::(Y++S))=some (P++Y++x::S):=by
 intro Y
 induction Y with
 |nil=>grind [Aw,BH,CF]
 |cons y Y ih=>
  intro P h hN;simp only[AM]at h;rw[Aw,hB];simp only[CF];rw[BH (by omega) (by omega),Ac (by omega:(P.length:Int)<(v2:Int)-1),Ah,ad1 (by omega),BV,fD,Aa];simp only;have:=ih (P++ [y]) (by simp;omega) hN;simp_all
theorem lE (a:γ->Int) (P S:List γ) (y:γ) (B:Int×List γ->Option ((Int×List γ)⊕(List γ))) (hB:∀k l,B (k,l)=CE (Mt a) (P.length:Int) k l):∀(n:Nat) (X S:List γ),X.length=n->P.length+X.length<=1152921504606846976->
  Ai B (((P.length+X.length:Nat):Int),P++X++y::S)=some (P++y::(X++S)):=by
 intro n
 induction n with
 |zero=>grind [Aw,CE]
 |succ n ih=>
  intro X S hX hN
  rcases E5 X with rfl|⟨X0,z,rfl⟩
  ·simp at hX
  rw[Hc]at hX hN⊢;simp only[A3,Du]at hX hN;have hl:P.length+(X0++ [z]).length=(P++X0).length+1:=by simp;omega
  have e0:P++(X0++ [z])++y::S=(P++X0)++z::y::S:=by simp
  have ej:sb (((P++X0).length+1:Nat):Int) 1=((P++X0).length:Nat):=by grind [BH]
  rw[Aw,hB];simp only[CE];rw[hl,e0,Ac (by grind:(((P++X0).length+1:Nat):Int)>(P.length:Int)),Ah,ej,aP,Aa];simp_all;grind
section
variable (key:γ->Int)
set_option maxHeartbeats 1000000 in
theorem QM:∀(n:Nat) (P X Y S:List γ),X≠ []->Y≠ []->srt key X->srt key Y->X.length+Y.length<=n->P.length+X.length+Y.length+S.length<=1152921504606846976->
  ∃Z,Cb (Mt key) n (P++X++Y++S) (P.length:Nat) ((P.length+X.length:Nat):Int) ((P.length+X.length+Y.length:Nat):Int)=some (P++Z++S)/\srt key Z/\Bi key (X++Y) Z:=by
 intro n
 induction n with
 |zero=>simp_all
 |succ n ih=>
  intro P X Y S hX hY sX sY hn hN;have lX:=IK.2 hX;have lY:=IK.2 hY;have eXA:sb ((P.length+X.length:Nat):Int) (P.length:Nat)=(X.length:Int):=by grind [BH]
  have eYB:sb ((P.length+X.length+Y.length:Nat):Int) ((P.length+X.length:Nat):Int)=(Y.length:Int):=by grind [BH]
  rw[Cb,eXA,eYB];by_cases h5:X.length=1
  ·obtain⟨x,rfl⟩:=List.length_eq_one_iff.1 h5;have:(((([x]:List γ).length:Nat):Int)==1)=true:=rfl;simp only[Du]at hn hN⊢;obtain⟨r,r1,r2,r3,r4,r5⟩:=WR (B:=λs:Int×Int=>DB (Mt key) (P++ [x]++Y++S) (P.length:Nat) s.1 s.2) (λc=>match Y[c-(P.length+1)]? with|some y=>decide (key y<key x)|none=>false) (P.length+1) (P.length+1+Y.length)
    (λi j hi o hj=>by
     simp only[DB];rw[Ac (by omega:(i:Int)<j),Ah];have hm:Us (i:Int) (j:Int)=(((i+j)/2:Nat):Int):=W9 i j (by omega);unfold Us at hm;rw[hm];have hk:(i+j)/2-(P.length+1)<Y.length:=by omega
     have g1:gi (P++ [x]++Y++S) (((i+j)/2:Nat):Int)=some Y[(i+j)/2-(P.length+1)]:=by
      have:=WG (P++ [x]) Y S ((i+j)/2-(P.length+1)) hk
      grind
     grind [Ti,ad1,jT,Mt])
    (λi=>by grind [DB])
    (Y.length) (P.length+1) (P.length+1+Y.length) (by omega) (A5 _) (by omega) (A5 _) (λh=>absurd h<|by omega) (λh=>absurd h<|by omega)
   rw[r1,Aa];have k:Y.take (r-(P.length+1))++Y.drop (r-(P.length+1))=Y:=BF _ _;have a8:(Y.take<|r-(P.length+1)).length=r-(P.length+1):=by simp;omega
   have a9:∀y∈Y.take (r-(P.length+1)),key y<key x:=by
    intro y hy;have h0:0<r-(P.length+1):=by grind
    have:=Pe key sY h0 (by omega) y hy;have hp:=r4 (by omega);rw[show r-1-(P.length+1)=r-(P.length+1)-1 by omega,Ab<|by omega]at hp
    grind
   have h6:∀y∈Y.drop (r-(P.length+1)),key x<=key y:=by
    intro y hy;have h0:r-(P.length+1)<Y.length:=by grind
    grind [Pf]
   have hm:=fX key (Y.drop (r-(P.length+1))++S) x r (λs=>CF (Mt key) (r:Int) s.1 s.2) (λ_ _=>rfl) (Y.take<|r-(P.length+1)) P (by omega) (by omega);have e:P++ [x]++Y++S=P++x::(Y.take (r-(P.length+1))++(Y.drop (r-(P.length+1))++S)):=by grind
   rw[e,hm,Aa];refine⟨Y.take (r-(P.length+1))++x::Y.drop (r-(P.length+1)),by simp,?_,?_⟩
   ·have sY':=sY;rw[<-k]at sY';obtain⟨q1,q2,q3⟩:=AH.1 sY';refine AH.2 ⟨q1,BZ.2 ⟨h6,q2⟩,λu hu v hv=>?_⟩
    grind
   have:=Lt key (a:=[x]) (b:=Y.take<|r-(P.length+1)) (λu hu y hy=>by simp at hu;grind);have:=El key this<|Bi.refl key<|Y.drop<|r-(P.length+1)
   grind
  have:((X.length:Int)==1)=false:=by grind
  rw[this,Ad];by_cases k:Y.length=1
  ·obtain⟨y,rfl⟩:=List.length_eq_one_iff.1 k;have:(((([y]:List γ).length:Nat):Int)==1)=true:=rfl;have gY:gi (P++X++ [y]++S) ((P.length+X.length:Nat):Int)=some y:=by grind [Ti]
   obtain⟨r,r1,r2,r3,r4,r5⟩:=WR (B:=λs:Int×Int=>DA (Mt key) (P++X++ [y]++S) ((P.length+X.length:Nat):Int) s.1 s.2) (λc=>match X[c-P.length]? with|some x=>!decide (key y<key x)|none=>false) P.length (P.length+X.length)
    (λi j hi o hj=>by
     simp only[DA];rw[Ac (by omega:(i:Int)<j),Ah];have hm:Us (i:Int) (j:Int)=(((i+j)/2:Nat):Int):=W9 i j (by omega);unfold Us at hm;rw[hm];have hk:(i+j)/2-P.length<X.length:=by omega
     have g1:gi (P++X++ [y]++S) (((i+j)/2:Nat):Int)=some X[(i+j)/2-P.length]:=by
      have:=WG P X ([y]++S) ((i+j)/2-P.length) hk
      grind
     grind [ad1,jT,Mt])
    (λi=>by grind [DA])
    (X.length) P.length (P.length+X.length) (by omega) (A5 _) (by omega) (A5 _) (λh=>absurd h<|by omega) (λh=>absurd h<|by omega)
   rw[r1,Aa];have hX1':X.take (r-P.length)++X.drop (r-P.length)=X:=BF _ _;have h7:(X.drop<|r-P.length).length=X.length-(r-P.length):=by simp
   have b0:∀x∈X.take (r-P.length),key x<=key y:=by
    intro x hx;have h0:0<r-P.length:=by grind
    have:=Pe key sX h0 (by omega) x hx;have hp:=r4 (by omega);rw[show r-1-P.length=r-P.length-1 by omega,Ab<|by omega]at hp
    grind
   have p:∀x∈X.drop (r-P.length),key y<key x:=by
    intro x hx;have h0:r-P.length<X.length:=by grind
    grind [Pf]
   have q:(P++X.take (r-P.length)).length=r:=by grind
   have hm:=lE key (P++X.take (r-P.length)) S y (λs=>CE (Mt key) (r:Int) s.1 s.2) (λ_ _=>by rw[q]) (X.drop<|r-P.length).length (X.drop<|r-P.length) S rfl (by grind);have e:P++X++ [y]++S=P++X.take (r-P.length)++X.drop (r-P.length)++y::S:=by simp
   rw[q,h7,show r+(X.length-(r-P.length))=P.length+X.length by omega]at hm;rw[e,hm,Aa];refine⟨X.take (r-P.length)++y::X.drop (r-P.length),by simp,?_,?_⟩
   ·have sX':=sX;rw[<-hX1']at sX';obtain⟨q1,q2,q3⟩:=AH.1 sX';refine AH.2 ⟨q1,BZ.2 ⟨λv hv=>Int.le_of_lt<|p v hv,q2⟩,λu hu v hv=>?_⟩
    grind
   have:=Lt key (a:=X.drop<|r-P.length) (b:=[y]) (λu hu v hv=>by simp at hv;grind)
   grind [El,Bi.refl]
  have:((Y.length:Int)==1)=false:=by grind
  rw[this,Ad];have f:Us (P.length:Nat) ((P.length+X.length+Y.length:Nat):Int)=(((P.length+(P.length+X.length+Y.length))/2:Nat):Int):=W9 _ _ (by omega);unfold Us at f;rw[f];obtain⟨mid,t⟩:∃mid,mid=(P.length+(P.length+X.length+Y.length))/2:=⟨_,rfl⟩;rw[<-t];have en:ad (mid:Int) ((P.length+X.length:Nat):Int)=((mid+(P.length+X.length):Nat):Int):=by grind [BN]
  rw[en];obtain⟨lo,hi,h8,b1,b2,l,h4⟩:∃lo hi:Nat,((cond (decide<|((P.length+X.length:Nat):Int)>(mid:Int)) (some (sb ((mid+(P.length+X.length):Nat):Int) ((P.length+X.length+Y.length:Nat):Int),(mid:Int))) (some (((P.length:Nat):Int),((P.length+X.length:Nat):Int))):Option (Int×Int))=some ((lo:Int),(hi:Int)))/\
    P.length<=lo/\hi<=P.length+X.length/\lo<=hi/\(P.length+X.length>mid/\lo=mid+(P.length+X.length)-(P.length+X.length+Y.length)/\hi=mid\/P.length+X.length<=mid/\lo=P.length/\hi=P.length+X.length):=by
   by_cases p:P.length+X.length>mid
   ·rw[Ac (by omega),Ah,BH (by omega)<|by omega]
    grind
   exact⟨P.length,P.length+X.length,by grind,by omega,by omega,by omega,.inr ⟨by omega,rfl,rfl⟩⟩
  rw[h8,Aa];simp only;have h9:sb ((mid+(P.length+X.length):Nat):Int) 1=((mid+(P.length+X.length)-1:Nat):Int):=by grind [BH]
  obtain⟨r,r1,r2,r3,r4,r5⟩:=WR (B:=λs:Int×Int=>D9 (Mt key) (P++X++Y++S) (P.length:Nat) ((P.length+X.length:Nat):Int) ((P.length+X.length+Y.length:Nat):Int) s.1 s.2)
   (λc=>match Y[mid+(P.length+X.length)-1-c-(P.length+X.length)]?,X[c-P.length]? with|some y,some x=>!decide (key y<key x)|_,_=>false) lo hi
   (λi j hi' o hj=>by
    simp only[D9];rw[Ac (by omega:(i:Int)<j),Ah,f,<-t,en,h9];have hm:Us (i:Int) (j:Int)=(((i+j)/2:Nat):Int):=W9 i j (by omega);unfold Us at hm;rw[hm];have hk:(i+j)/2-P.length<X.length:=by omega
    have d:mid+(P.length+X.length)-1-(i+j)/2-(P.length+X.length)<Y.length:=by omega
    have g1:gi (P++X++Y++S) (((i+j)/2:Nat):Int)=some X[(i+j)/2-P.length]:=by
     have:=WG P X (Y++S) ((i+j)/2-P.length) hk
     grind
    have es:sb ((mid+(P.length+X.length)-1:Nat):Int) (((i+j)/2:Nat):Int)=(((P++X).length+(mid+(P.length+X.length)-1-(i+j)/2-(P.length+X.length)):Nat):Int):=by grind [BH]
    have g2:gi (P++X++Y++S) (((P++X).length+(mid+(P.length+X.length)-1-(i+j)/2-(P.length+X.length)):Nat):Int)=some Y[mid+(P.length+X.length)-1-(i+j)/2-(P.length+X.length)]:=WG (P++X) Y S _ d;unfold jT;rw[es,g2,Aa,g1,Aa,Aa,Ab hk,Ab d]
    grind [ad1,Mt])
   (λi=>by grind [D9])
   (hi-lo) lo hi (A5 _) (A5 _) l (A5 _) (λh=>absurd h<|by omega) (λh=>absurd h<|by omega)
  rw[r1,Aa];obtain⟨fin,a7⟩:∃fin,fin=mid+(P.length+X.length)-r:=⟨_,rfl⟩;have w:sb ((mid+(P.length+X.length):Nat):Int) (r:Int)=(fin:Int):=by rw[BH (by omega)<|by omega];omega
  simp only[w];have b3:P.length+X.length<=fin/\fin<=P.length+X.length+Y.length:=by omega
  obtain⟨A1,A2,hA⟩:∃A1 A2,A1=X.take (r-P.length)/\A2=X.drop (r-P.length):=⟨_,_,rfl,rfl⟩;obtain⟨B1,B2,hB⟩:∃B1 B2,B1=Y.take (fin-(P.length+X.length))/\B2=Y.drop (fin-(P.length+X.length)):=⟨_,_,rfl,rfl⟩;have a0:A1++A2=X:=by rw[hA.1,hA.2];simp
  have a1:B1++B2=Y:=by rw[hB.1,hB.2];simp
  have lA1:A1.length=r-P.length:=by rw[hA.1];simp;omega
  have lA2:A2.length=P.length+X.length-r:=by grind
  have lB1:B1.length=fin-(P.length+X.length):=by rw[hB.1];simp;omega
  have lB2:B2.length=P.length+X.length+Y.length-fin:=by grind
  have sX':=sX;rw[<-a0]at sX';obtain⟨sA1,sA2,sA⟩:=AH.1 sX';have sY':=sY;rw[<-a1]at sY';obtain⟨sB1,sB2,sB⟩:=AH.1 sY';have b4:∀u∈A1,∀v∈B2,key u<=key v:=by
   intro u hu v hv;have l1:=JZ hu;have l2:=JZ hv;have hp:=r4 (by omega);have d:mid+(P.length+X.length)-1-(r-1)-(P.length+X.length)<Y.length:=by omega
   have g:r-1-P.length<X.length:=by omega
   rw[Ab d,Ab g]at hp;simp only[Hf,decide_eq_false_iff_not]at hp;rw[hA.1]at hu;have k1:=Pe key sX (r:=r-P.length) (by omega) (by omega) u hu;rw[hB.2]at hv;have k2:=Pf key sY (r:=fin-(P.length+X.length)) (by omega) v hv;have i1:X[r-P.length-1]'(by omega)=X[r-1-P.length]'g:=by congr 1;omega
   have i2:Y[fin-(P.length+X.length)]'(by omega)=Y[mid+(P.length+X.length)-1-(r-1)-(P.length+X.length)]'d:=by congr 1;omega
   grind
  have a2:∀x∈A2,∀y∈B1,key y<key x:=by
   intro x hx y hy;have l1:=JZ hx;have l2:=JZ hy;have hp:=r5 (by omega);have d:mid+(P.length+X.length)-1-r-(P.length+X.length)<Y.length:=by omega
   have g:r-P.length<X.length:=by omega
   rw[Ab d,Ab g]at hp;simp only[Bool.not_eq_false',Br]at hp;rw[hA.2]at hx;have k1:=Pf key sX g x hx;rw[hB.1]at hy;have k2:=Pe key sY (r:=fin-(P.length+X.length)) (by omega) (by omega) y hy;have i2:Y[fin-(P.length+X.length)-1]'(by omega)=Y[mid+(P.length+X.length)-1-r-(P.length+X.length)]'d:=by congr 1;omega
   grind
  have z:(((bif decide ((r:Int)<((P.length+X.length:Nat):Int))then some (decide<|((P.length+X.length:Nat):Int)<(fin:Int))else some false:Option Bool).bind λj2=>
    (bif j2 then((FH (Mt key) (P++X++Y++S) (r:Int) ((P.length+X.length:Nat):Int) (fin:Int)).bind λv11=>some v11)else some (P++X++Y++S):Option (List γ))))=some (P++A1++B1++A2++B2++S):=by
   have e:P++X++Y++S=(P++A1)++A2++B1++(B2++S):=by grind
   by_cases c1:r<P.length+X.length
   ·rw[Ac (by omega:(r:Int)<((P.length+X.length:Nat):Int)),Ah,Aa];by_cases c2:P.length+X.length<fin
    ·rw[Ac (by omega:((P.length+X.length:Nat):Int)<(fin:Int)),Ah];have hr:=dA (lt:=Mt key) (P++A1) A2 B1 (B2++S) (by grind) (by grind) (by grind);rw[show(P++A1).length=r by rw[A3];omega]at hr
     grind
    rw[Ag (by omega:¬((P.length+X.length:Nat):Int)<(fin:Int)),Ad,e];have:B1=[]:=Ba (by omega);rw[this];simp
   grind
  rw[<-Option.bind_assoc,z,Aa]
  have h1:∃Z1,(((bif decide (((P.length:Nat):Int)<(r:Int))then some (decide<|(r:Int)<(mid:Int))else some false:Option Bool).bind λj4=>
    (bif j4 then((Cb (Mt key) n (P++A1++B1++A2++B2++S) (P.length:Nat) (r:Int) (mid:Int)).bind λv12=>some v12)else some (P++A1++B1++A2++B2++S):Option (List γ))))=some (P++Z1++A2++B2++S)/\srt key Z1/\Bi key (A1++B1) Z1:=by
   by_cases c1:P.length<r/\r<mid
   ·rw[Ac (by omega:((P.length:Nat):Int)<(r:Int)),Ah,Aa,Ac (by omega:(r:Int)<(mid:Int)),Ah];obtain⟨Z,z1,z2,z3⟩:=ih P A1 B1 (A2++B2++S) (by grind) (by intro e;rw[e]at lB1;simp at lB1;omega) sA1 sB1 (by omega) (by grind);rw[show P.length+A1.length=r by omega,show r+B1.length=mid by omega]at z1;refine⟨Z,?_,z2,z3⟩
    grind
   refine⟨A1++B1,?_,?_,Bi.refl key _⟩
   ·have:((bif decide (((P.length:Nat):Int)<(r:Int))then some (decide<|(r:Int)<(mid:Int))else some false:Option Bool))=some false:=by
     by_cases c:P.length<r
     ·grind
     grind
    grind
   by_cases c:P.length<r
   ·have:B1=[]:=Ba (by omega);rw[this,AQ];exact sA1
   have:A1=[]:=Ba (by omega);rw[this,Ao];exact sB1
  obtain⟨Z1,a3,a4,m⟩:=h1;rw[<-Option.bind_assoc,a3,Aa];have lZ1:Z1.length=A1.length+B1.length:=by have:=m.len key;grind
  have h2:∃Z2,(bif decide ((mid:Int)<(fin:Int))then(bif decide ((fin:Int)<((P.length+X.length+Y.length:Nat):Int))then((Cb (Mt key) n (P++Z1++A2++B2++S) (mid:Int) (fin:Int) ((P.length+X.length+Y.length:Nat):Int)).bind λv13=>some v13)else some<|P++Z1++A2++B2++S)else some (P++Z1++A2++B2++S):Option (List γ))=some (P++Z1++Z2++S)/\srt key Z2/\Bi key (A2++B2) Z2:=by
   by_cases c1:mid<fin
   ·rw[Ac (by omega:(mid:Int)<(fin:Int)),Ah];by_cases c2:fin<P.length+X.length+Y.length
    ·rw[Ac (by omega:(fin:Int)<((P.length+X.length+Y.length:Nat):Int)),Ah];obtain⟨Z,z1,z2,z3⟩:=ih (P++Z1) A2 B2 S (by intro e;rw[e]at lA2;simp at lA2;omega) (by grind) sA2 sB2 (by omega) (by grind);rw[show(P++Z1).length=mid by rw[A3];omega,show mid+A2.length=fin by omega,show fin+B2.length=P.length+X.length+Y.length by omega]at z1
     grind
    rw[Ag (by omega:¬(fin:Int)<((P.length+X.length+Y.length:Nat):Int)),Ad];have:B2=[]:=Ba (by omega);refine⟨A2++B2,by simp,?_,Bi.refl key _⟩;rw[this,AQ];exact sA2
   rw[Ag (by omega:¬(mid:Int)<(fin:Int)),Ad];have:A2=[]:=Ba (by omega);refine⟨A2++B2,by simp,?_,Bi.refl key _⟩;rw[this,Ao];exact sB2
  obtain⟨Z2,a5,a6,h3⟩:=h2;rw[a5];refine⟨Z1++Z2,by simp,AH.2 ⟨a4,a6,λu hu v hv=>?_⟩,?_⟩
  ·have hu':=(m.mem key).1 hu;have hv':=(h3.mem key).1 hv
   rcases Aq.1 hu' with hu'|hu'<;>rcases Aq.1 hv' with hv'|hv'
   ·grind
   ·grind
   ·grind
   grind
  have e1:=El key (Bi.refl key A1)<|El key (Lt key a2)<|Bi.refl key B2;have e2:=El key m h3
  grind [Bi.trans]
end
section
variable {γ:Type} (key:γ->Int)
inductive Blocks (bs:Nat):List γ->Prop
 |last {l:List γ} (h:l.length<=bs) (hs:srt key l):Blocks bs l
 |cons {X l:List γ} (h:X.length=bs) (hs:srt key X) (hl:Blocks bs l):Blocks bs (X++l)
end
theorem WU (c:γ->Int) (N:Nat) (hN:N<=1073741824) (B:Int×Int×List γ->Option ((Int×Int×List γ)⊕(Int×List γ))) (hB:∀a b l,B (a,b,l)=C9 (Mt c) (N:Int) a b l):
  ∀(k:Nat) (P T:List γ),T.length<=k->P.length+T.length=N->
   ∃Q R,Ai B ((P.length:Int),((P.length+20:Nat):Int),P++T)=some (((P.length+Q.length:Nat):Int),P++Q++R)/\Bi c T (Q++R)/\R.length<20/\(∀R',srt c R'->R'.length=R.length->Blocks c 20 (Q++R')):=by
 intro k
 induction k with
 |zero=>
  intro P T hT hP;have:=Ba<|Nat.le_zero.1 hT;subst this;refine⟨[],[],?_,Bi.refl c _,by simp,λR' h h2=>?_⟩
  ·grind [Aw,C9]
  rw[Ao];exact .last (by omega) h
 |succ k ih=>
  intro P T hT hP;by_cases h20:T.length<20
  ·refine⟨[],T,?_,by exact Bi.refl c _,h20,λR' h h2=>by rw[Ao];exact .last (by omega) h⟩;rw[Aw,hB];simp_all [C9];grind
  have d:T=T.take 20++T.drop 20:=(BF _ _).symm;have l1:(T.take 20).length=20:=by simp;omega
  have l2:(T.drop 20).length=T.length-20:=by simp
  obtain⟨X',x1,x2,x3⟩:=HY c P (T.take 20) (T.drop 20) (by omega);have lX:X'.length=20:=by have:=x3.len c;omega
  rw[l1]at x1;obtain⟨Q,R,q1,q2,q3,q4⟩:=ih (P++X') (T.drop 20) (by omega) (by rw[A3];omega);refine⟨X'++Q,R,?_,?_,q3,λR' h h2=>?_⟩
  ·rw[Aw,hB];simp only[C9];rw[Ac (by omega:((P.length+20:Nat):Int)<=(N:Int)),Ah];have e:P++T=P++T.take 20++T.drop 20:=by grind
   rw[e,x1,Aa];simp only;have e2:ad ((P.length+20:Nat):Int) 20=(((P++X').length+20:Nat):Int):=by rw[BN (by omega) (by omega),A3];omega
   rw[e2,show P.length+20=(P++X').length by rw[A3];omega,q1];simp[Nat.add_assoc]
  ·grind [El]
  rw[By];exact .cons lX x2<|q4 R' h h2
theorem WT (c:γ->Int) (N bs:Nat) (hN:N<=1073741824) (e:0<bs) (f:bs<N) (B:Int×Int×List γ->Option ((Int×Int×List γ)⊕(Int×List γ))) (hB:∀a b l,B (a,b,l)=C8 (Mt c) (N:Int) (bs:Int) a b l):
  ∀(k:Nat) (P T:List γ),T.length<=k->P.length+T.length=N->Blocks c bs T->
   ∃Q R,Ai B ((P.length:Int),((P.length+2*bs:Nat):Int),P++T)=some (((P.length+Q.length:Nat):Int),P++Q++R)/\Bi c T (Q++R)/\R.length<2*bs/\Blocks c bs R/\(∀R',srt c R'->R'.length=R.length->Blocks c (2*bs) (Q++R')):=by
 intro k
 induction k with
 |zero=>
  intro P T hT hP hb;have:=Ba<|Nat.le_zero.1 hT;subst this;refine⟨[],[],?_,Bi.refl c _,by simp;omega,hb,λR' h h2=>?_⟩
  ·grind [Aw,C8]
  rw[Ao];exact .last (by omega) h
 |succ k ih=>
  intro P T hT hP hb;by_cases h2:T.length<2*bs
  ·refine⟨[],T,?_,by exact Bi.refl c _,h2,hb,λR' h h3=>by rw[Ao];exact .last (by omega) h⟩;rw[Aw,hB];simp only[C8]
   grind
  
  obtain⟨X,Y,T2,rfl,lX,lY,sX,sY,d⟩:∃X Y T2,T=X++Y++T2/\X.length=bs/\Y.length=bs/\srt c X/\srt c Y/\Blocks c bs T2:=by
   cases hb with
   |last h hs=>omega
   | @cons X l h hs hl=>
    cases hl with
    |last h' hs'=>
     simp only[A3]at h2;exact⟨X,l,[],by simp,h,by omega,hs,hs',.last (by simp) List.Pairwise.nil⟩
    | @cons Y l' h' hs' hl'=>grind
  simp only[A3]at hP hT h2;obtain⟨Z,z1,z2,z3⟩:=QM c ((P++(X++Y++T2)).length+1) P X Y T2 (by grind) (by grind) sX sY (by grind [A3]) (by omega);have lZ:Z.length=2*bs:=by have:=z3.len c;grind
  obtain⟨Q,R,q1,q2,q3,q4,q5⟩:=ih (P++Z) T2 (by omega) (by rw[A3];omega) d;refine⟨Z++Q,R,?_,?_,q3,q4,λR' h h3=>?_⟩
  ·rw[Aw,hB];simp only[C8];rw[Ac (by omega:((P.length+2*bs:Nat):Int)<=(N:Int)),Ah];have e1:ad (P.length:Int) (bs:Int)=((P.length+X.length:Nat):Int):=by rw[BN (by omega)<|by omega];omega
   have e2:((P.length+2*bs:Nat):Int)=((P.length+X.length+Y.length:Nat):Int):=by omega
   have e3:ad ((P.length+2*bs:Nat):Int) (ml 2 (bs:Int))=(((P++Z).length+2*bs:Nat):Int):=by
    rw[KT (by omega) (by omega),BN (by omega) (by omega),A3];omega
   have e4:P++(X++Y++T2)=P++X++Y++T2:=by simp
   rw[e3,e1,e2,e4];rw[e4]at z1;rw[z1,Aa];simp only;rw[show P.length+X.length+Y.length=(P++Z).length by rw[A3];omega,q1];simp[Nat.add_assoc]
  ·have:=El c z3 q2
   grind
  rw[By];exact .cons lZ z2<|q5 R' h h3
section
variable (key:γ->Int)
theorem UK (l:List γ) (hN:l.length<=1073741824):∃r,HK (Mt key) l (ln l)=some r/\srt key r/\Bi key l r:=by
 have rounds:∀(B:Int×List γ->Option ((Int×List γ)⊕(List γ))),(∀b l',B (b,l')=Dl (Mt key) (l.length:Int) b l')->∀(k bs:Nat) (T:List γ),l.length<=bs+k->0<bs->bs<=2147483648->T.length=l.length->Blocks key bs T->∃r,Ai B ((bs:Int),T)=some r/\srt key r/\Bi key T r:=by
  intro B hB k
  induction k with
  |zero=>
   intro bs T hk c d hT hb;rw[Aw,hB];simp only[Dl];rw[Ag (by omega:¬(bs:Int)<(l.length:Int)),Ad];refine⟨T,rfl,?_,Bi.refl key _⟩
   cases hb with
   |last h hs=>exact hs
   | @cons X l' h hs hl=>
    simp only[A3]at hT;have:l'=[]:=Ba<|by omega
    grind
  |succ k ih=>
   intro bs T hk c d hT hb;by_cases e:bs<l.length
   ·rw[Aw,hB];simp only[Dl];rw[Ac (by omega:(bs:Int)<(l.length:Int)),Ah];obtain⟨Q,R,q1,q2,q3,q4,q5⟩:=WT key l.length bs hN c e (λs=>C8 (Mt key) (l.length:Int) (bs:Int) s.1 s.2.1 s.2.2) (λ_ _ _=>rfl) T.length [] T (A5 _) (by simp[hT]) hb;simp only[IW,Ao,aC]at q1;have a:Q.length+R.length=l.length:=by have:=q2.len key;grind
    have e2:ml 2 (bs:Int)=((2*bs:Nat):Int):=by grind [KT]
    have e2':ml (bs:Int) 2=((2*bs:Nat):Int):=by grind [KT]
    rw[e2,e2'];rw[show((0:Nat):Int)=0 from rfl]at q1;rw[q1,Aa];simp only;have em:ad (Q.length:Int) (bs:Int)=((Q.length+bs:Nat):Int):=by grind [BN]
    rw[em];by_cases hm:Q.length+bs<l.length
    ·rw[Ac (by omega:((Q.length+bs:Nat):Int)<(l.length:Int)),Ah];obtain⟨X,Y,rfl,lX,sX,sY⟩:∃X Y,R=X++Y/\X.length=bs/\srt key X/\srt key Y:=by
      cases q4 with
      |last h hs=>omega
      | @cons X l' h hs hl=>
       refine⟨X,l',rfl,h,hs,?_⟩
       cases hl with
       |last h' hs'=>exact hs'
       | @cons Y l'' h' hs' hl'=>grind
     simp only[A3]at a q3;obtain⟨Z,z1,z2,z3⟩:=QM key ((Q++(X++Y)).length+1) Q X Y [] (by grind) (by grind) sX sY (by grind) (by grind);have e5:Q++X++Y++ []=Q++(X++Y):=by simp
     rw[e5,AQ,lX,show Q.length+bs+Y.length=l.length by omega]at z1;rw[z1,Aa];have lZ:Z.length=(X++Y).length:=(z3.len key).symm;obtain⟨r,r1,r2,r3⟩:=ih (2*bs) (Q++Z) (by omega) (by omega) (by omega) (by grind)<|q5 Z z2 lZ
     grind [Bi.trans,El,Bi.refl]
    rw[Ag (by omega:¬((Q.length+bs:Nat):Int)<(l.length:Int)),Ad];have sR:srt key R:=by
     cases q4 with
     |last h hs=>exact hs
     | @cons X l' h hs hl=>
      simp only[A3]at a;have:l'=[]:=Ba<|by omega
      grind
    obtain⟨r,r1,r2,r3⟩:=ih (2*bs) (Q++R) (by omega) (by omega) (by omega) (by grind)<|q5 R sR rfl
    grind [Bi.trans]
   grind
 unfold HK;rw[Bu];obtain⟨Q,R,q1,q2,q3,q4⟩:=WU key l.length hN (λs=>C9 (Mt key) (l.length:Int) s.1 s.2.1 s.2.2) (λ_ _ _=>rfl) l.length [] l (A5 _) (by simp);simp only[IW,Ao,aC]at q1;rw[show((0:Nat):Int)=0 from rfl,show((20:Nat):Int)=20 from rfl]at q1;rw[q1,Aa];have a:Q.length+R.length=l.length:=by have:=q2.len key;grind
 obtain⟨R',r1,r2,r3⟩:=HY key Q R [] (by grind);rw[AQ,AQ,a]at r1;simp only;rw[r1,Aa];have lR:R'.length=R.length:=(r3.len key).symm;obtain⟨r,w1,w2,w3⟩:=rounds (λs=>Dl (Mt key) (l.length:Int) s.1 s.2) (λ_ _=>rfl) l.length 20 (Q++R') (by omega) (by omega) (by omega) (by grind)<|q4 R' r2 lR
 grind [Bi.trans,El,Bi.refl]
end
end Go.TI
