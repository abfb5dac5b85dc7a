/- A call that turns a list which is lent to it. No condition; no program is in sight. -/
import Derived.Test.YtcjepealfaimfaaGreatPOTID
namespace Go.TI
open Go Go.RowKit
set_option linter.unusedSimpArgs false
set_option linter.unusedVariables false
theorem addrZ {g m : Nat} : ((⟨g, 0, none⟩ : Addr).add m) = ⟨g, m, none⟩ := by
  unfold Addr.add
  split
  · rename_i h; subst h; rfl
  · simp
def pvs (w : World) (vs : List Value) (q : List Nat) (j : Nat) : Option Value := match q with
  | [] => vs[j]?
  | c :: q => (vs[c]?).bind fun v => (baseV w v q).bind fun ad => w.cell? (ad.add j)
theorem own_block_kept {w w' : World} {e sz n : Nat} {v : Value} {vs : List Value} (h : w.ownsRow 0 e sz v n vs) (hk : ∀ b ∈ blkOf v, w'.heap[b]? = w.heap[b]?) : w'.ownsRow 0 e sz v n vs := by
  refine ⟨h.1, ?_⟩
  rcases h.2 with q | ⟨g, cap, cur, rfl, q1, q2, q3⟩
  · exact .inl q
  · exact .inr ⟨g, cap, cur, rfl, q1, by rw [hk g (by simp [blkOf, Value.ownBlock])]; exact q2, q3⟩
theorem reps_focus {w : World} : ∀ (q : List Nat) {cs : List TV} {vs : List Value} {F U : List Nat} {j : Nat} {t : TV}, reps w cs vs F U → ownP cs q = true → (cont cs q).bind (fun row => row[j]?) = some t →
    ∃ v FA F1 FB UA U1 UB, pvs w vs q j = some v ∧ rep w t v F1 U1 ∧ F = FA ++ F1 ++ FB ∧ U = UA ++ U1 ++ UB ∧
      ∀ (w' : World) (t' : TV) (G V : List Nat), rep w' t' v G V → (∀ b ∈ FA ++ FB, w'.heap[b]? = w.heap[b]?) → (∀ b ∈ UA ++ UB, w'.heap[b]? = w.heap[b]?) → reps w' (updC cs q fun row => row.set j t') vs (FA ++ G ++ FB) (UA ++ V ++ UB)
  | [], cs, vs, F, U, j, t, h, _, hc => by
    simp only [cont, Option.bind_some] at hc
    obtain ⟨v, A, B, C, D, F1, U1, hv, hr, h1, h2, hk⟩ := reps_get j h hc
    refine ⟨v, A, F1, B, C, U1, D, hv, hr, h1, h2, fun w' t' G V hr' hA hC => ?_⟩
    have := hk w' t' v G V hr' hA hC
    rw [set_self hv] at this
    exact this
  | c :: q, cs, vs, F, U, j, t, h, ho, hc => by
    simp only [cont] at hc
    simp only [ownP] at ho
    split at hc
    · rename_i o e sz cells hcs
      rw [hcs] at ho
      simp only [Bool.and_eq_true] at ho
      obtain ⟨rfl, ho⟩ := ho
      obtain ⟨v, A, B, C, D, F1, U1, hv, hr, rfl, rfl, hk⟩ := reps_get c h hcs
      simp only [rep] at hr
      obtain ⟨n, vs', F', hown, hrs, rfl⟩ := hr
      obtain ⟨u, A2, F2, B2, C2, U2, D2, hu, hru, rfl, rfl, hk2⟩ := reps_focus q hrs ho hc
      refine ⟨u, A ++ blkOf v ++ A2, F2, B2 ++ B, C ++ C2, U2, D2 ++ D, ?_, hru, by simp, by simp, fun w' t' G V hr' hA hC => ?_⟩
      · simp only [pvs, hv, Option.bind_some]
        -- the row behind the header
        have hrd := own_Reads hown
        cases q with
        | nil =>
          simp only [pvs] at hu
          obtain ⟨ad, n', c', rfl, hcell⟩ := hrd j u hu
          simp only [baseV, baseFrom, Option.bind_some]
          exact hcell
        | cons c2 q2 =>
          simp only [pvs] at hu
          obtain ⟨v2, hv2, hu⟩ := Option.bind_eq_some_iff.1 hu
          obtain ⟨ad, n', c', rfl, hcell⟩ := hrd c2 v2 hv2
          simp only [baseV]
          rw [baseFrom_cons hcell]
          exact hu
      · have hin := hk2 w' t' G V hr' (fun b hb => hA b (by simp at hb ⊢; rcases hb with hb | hb <;> simp [hb])) (fun b hb => hC b (by simp at hb ⊢; rcases hb with hb | hb <;> simp [hb]))
        have hnew : rep w' (.sl true e sz (updC cells q fun row => row.set j t')) v (blkOf v ++ (A2 ++ G ++ B2)) (C2 ++ V ++ D2) := by
          simp only [rep]
          exact ⟨n, vs', _, own_block_kept hown (fun b hb => hA b (by simp [hb])), hin, rfl⟩
        have := hk w' _ v _ _ hnew (fun b hb => hA b (by simp at hb ⊢; rcases hb with hb | hb <;> simp [hb])) (fun b hb => hC b (by simp at hb ⊢; rcases hb with hb | hb <;> simp [hb]))
        rw [set_self hv] at this
        simp only [updC, hcs]
        have e1 : A ++ blkOf v ++ A2 ++ G ++ (B2 ++ B) = A ++ (blkOf v ++ (A2 ++ G ++ B2)) ++ B := by simp
        have e2 : C ++ C2 ++ V ++ (D2 ++ D) = C ++ (C2 ++ V ++ D2) ++ D := by simp
        rw [e1, e2]
        exact this
    · cases hc
theorem updC_set_len {t' : TV} {j : Nat} : ∀ (q : List Nat) {cs : List TV}, (updC cs q fun row => row.set j t').length = cs.length
  | [], cs => by simp [updC]
  | c :: q, cs => by
    simp only [updC]
    split <;> simp
section
variable {w0 : Base} {FA UA : List Nat} {N : Nat} {w : World} {a : Act} {E : St} {blk : Root → Nat} {FS US : Root → List Nat} {P : Program}
theorem call_lent (h : Rel w0 FA UA N w a E blk FS US) (hF : FS .hand = []) (hU : US .hand = []) {o : Oper} {f : FuncId} {x y : Operand} {tys : Array TypeId} (ho : o.op = .call { callee := .value (.func f), args := #[x, y], argTypes := tys }) (hf : goFn P f)
    {d : Nat} (hd : o.dst = some d) (hN : d < N) {r : Root} {q : List Nat} {j : Nat} (hx : E.ref x = some (r, q, j)) {cs : List TV} (hroot : (∃ n t, r = .slot n ∧ E.slots n = .one t ∧ cs = [t] ∧ t.isJunk = false ∧ (∀ w v F U a E blk, cellX w a E blk t v F U → rep w t v F U)) ∨ (r.mem = true ∧ E.boxes r = some cs)) (hown : ownP cs q = true)
    {e sz : Nat} {cells cells' : List TV} (hpl : (cont cs q).bind (fun row => row[j]?) = some (.sl true e sz cells)) (hns : hasShareds cells = false) (hns' : hasShareds cells' = false) {k k' : IntKind} {m m' : Int} (hy : E.cell1 P 0 y = some (.int k m))
    (hg : Gives P f [.sv (.one (.sl true e sz cells)), .sv (.one (.int k m))] (.one (.int k' m')) [.sv (.one (.sl true e sz cells')), .gone])
    {K : Act → World → Prop} {Q : Exit → Act → World → Prop} (hK : ∀ w' v blk' FS' US', Rel w0 FA UA N w' (a.put o.dst v) (((E.setRoot r (updC cs q fun row => row.set j (.sl true e sz cells'))).bump r).put o.dst (.one (.int k' m'))) blk' FS' US' → FS' .hand = [] → US' .hand = [] → K (a.put o.dst v) w') : o.wp P a w K Q := by
  have hne : r ≠ .hand := by rcases hroot with ⟨n, t, rfl, _⟩ | ⟨hm, _⟩ <;> rintro ⟨⟩; cases hm
  have hroot' : E.root r = some cs := by
    rcases hroot with ⟨n, t, rfl, h1, rfl, _⟩ | ⟨hm, h1⟩
    · simp [St.root, h1, SV.cells]
    · cases r with
      | slot n => cases hm
      | hand => cases hm
      | box n => exact h1
      | ext n => exact h1
  -- the root's cells
  obtain ⟨vs, F, hrep, hFS, hpvs⟩ : ∃ vs F, reps w cs vs F (US r) ∧ (FS r = F ∧ (∃ n, r = .slot n ∧ vs = [a.eval (.tmp n)]) ∨ FS r = blk r :: F ∧ r.mem = true ∧ ∃ cur T, w.heap[blk r]? = some (.cells cur T (0, 0)) ∧ vs = cur.toList ∧ E.boxes r = some cs) ∧ pv w a blk r q j = pvs w vs q j := by
    rcases hroot with ⟨n, t, rfl, h1, rfl, h2, h3⟩ | ⟨hm, h1⟩
    · have hs := h.slot n
      rw [h1] at hs
      simp only [svX] at hs
      have hc := hs.2 h2
      have hr := h3 _ _ _ _ _ _ _ hs.1
      refine ⟨[a.eval (.tmp n)], FS (.slot n), ?_, .inl ⟨rfl, n, rfl, rfl⟩, ?_⟩
      · simp only [reps]
        exact ⟨_, [], _, [], _, [], rfl, by simp, by simp, hr, rfl, rfl, rfl⟩
      · have hrc : ∀ c, rootCell w a blk (.slot n) c = ([a.eval (.tmp n)] : List Value)[c]? := fun c => by simp only [rootCell, hc]; simp
        cases q with
        | nil => simp only [pv, pvs, hrc]
        | cons c q => simp only [pv, pvs, hrc]
    · rcases h.box r hm with ⟨h2, _⟩ | ⟨cs', cur, T, F0, h2, h3, h4, h5⟩
      · rw [h1] at h2; cases h2
      · rw [h1] at h2
        injection h2 with h2
        subst h2
        refine ⟨cur.toList, F0, h4, .inr ⟨h5, hm, cur, T, h3, rfl, h1⟩, ?_⟩
        have hrc : ∀ c, rootCell w a blk r c = cur.toList[c]? := fun c => by
          have e1 : ((⟨blk r, 0, none⟩ : Addr).add c) = ⟨blk r, c, none⟩ := addrZ
          cases r with
          | slot n => cases hm
          | hand => cases hm
          | box n => simp only [rootCell, e1, World.cell?, h3]; simp
          | ext n => simp only [rootCell, e1, World.cell?, h3]; simp
        cases q with
        | nil => simp only [pv, pvs, hrc]
        | cons c q => simp only [pv, pvs, hrc]
  obtain ⟨v, A, F1, B, C, U1, D, hv, hr1, hFe, hUe, hback⟩ := reps_focus q hrep hown hpl
  have evx : a.eval x = v := by
    have := ref_rel h hx
    rw [hpvs, hv] at this
    injection this with this
    exact this.symm
  have hU1 : U1 = [] := by
    simp only [rep] at hr1
    obtain ⟨n, vs', F', _, h2, _⟩ := hr1
    exact reps_noshare h2 hns
  subst hU1
  have evy := cell1_int h hy
  have hFin : ∀ b ∈ F, b ∈ FS r := fun b hb => by rcases hFS with ⟨e1, _⟩ | ⟨e1, _⟩ <;> rw [e1] <;> simp [hb]
  have hF1 : ∀ b ∈ F1, b ∈ FS r := fun b hb => hFin b (by rw [hFe]; simp [hb])
  have hFnd : F.Nodup := by
    have := h.nodup r
    rcases hFS with ⟨e1, _⟩ | ⟨e1, _⟩
    · rw [e1] at this; exact this
    · rw [e1] at this; exact (List.nodup_cons.1 this).2
  rw [hFe] at hFnd
  obtain ⟨n1, n2, n3⟩ := nodup_mid hFnd
  have hone : (a.eval x).cells = #[a.eval x] := by rw [evx]; exact cells_one (rep_one hr1)
  have hcall := hg w [a.eval x, a.eval y] F1 [] ⟨_, _, F1, [], [], [], rfl, by simp, by simp, ⟨by rw [evx]; exact hr1, hone⟩, ⟨_, _, [], [], [], [], rfl, rfl, rfl, ⟨by rw [evy]; simp [rep], by rw [evy]; rfl⟩, rfl, rfl, rfl⟩⟩ n1 (by simp) (by
    intro b hb
    rw [List.append_nil] at hb
    exact (h.inF r b (hF1 b hb)).2)
  unfold Oper.wp
  rw [run_call_fn ho hf]
  have ea : #[x, y].map a.eval = [a.eval x, a.eval y].toArray := by simp
  rw [ea]
  simp only [Oper.upon]
  refine Calls.mono hcall ?_
  rintro ee w' ⟨vr, Fr, Ur, G, V, rfl, hleft⟩
  have hfin := hleft.fin
  simp only [argsR] at hfin
  obtain ⟨v1, vs1, G1, G2, V1, V2, e1, rfl, rfl, hfr, v2, vs2, G3, G4, V3, V4, e3, rfl, rfl, ⟨rfl, rfl⟩, e4, rfl, rfl⟩ := hfin
  injection e1 with e1 e2
  subst e1
  have hres := hleft.res
  simp only [svR, rep] at hres
  obtain ⟨⟨rfl, rfl, rfl⟩, _⟩ := hres
  simp only [avR, svR] at hfr
  obtain ⟨hfr, _⟩ := hfr
  have hV1 : V1 = [] := by
    simp only [rep] at hfr
    obtain ⟨n, vs', F', _, h2, _⟩ := hfr
    exact reps_noshare h2 hns'
  subst hV1
  have hGin : ∀ b ∈ G1, (b ∈ F1 ∨ w.heap.size ≤ b) ∧ b < w'.heap.size := fun b hb => hleft.inF b (by simp [hb])
  have hGnd : G1.Nodup := by have := hleft.nodup; simpa using this
  have hkA : ∀ b ∈ A ++ B, w'.heap[b]? = w.heap[b]? := fun b hb => by
    refine hleft.keep b (h.inF r b (hFin b (by rw [hFe]; simp at hb ⊢; rcases hb with hb | hb <;> simp [hb]))).2 (fun hb1 => ?_)
    rcases List.mem_append.1 hb with hb | hb
    · exact (n2 b hb1).1 hb
    · exact (n2 b hb1).2 hb
  have hkC : ∀ b ∈ C ++ D, w'.heap[b]? = w.heap[b]? := fun b hb => by
    have hbU : b ∈ US r := by rw [hUe]; simpa using hb
    exact hleft.keep b (h.inU r b hbU).2 (fun hb1 => h.disU r r b (hF1 b hb1) hbU)
  rw [evx] at hfr
  have hnewr := hback w' (.sl true e sz cells') G1 [] hfr hkA hkC
  -- the new state
  let cs' := updC cs q fun row => row.set j (.sl true e sz cells')
  let E1 : St := (E.setRoot r cs').bump r
  have hlen : cs'.length = cs.length := updC_set_len q
  have ev : ∀ s, s ≠ r → E1.ver s = E.ver s := by
    intro s hs
    cases r <;> simp [E1, St.bump, St.setRoot, upd, hs]
  have evr : E1.ver r = E.ver r + 1 := by cases r <;> simp [E1, St.bump, St.setRoot, upd]
  have eg : ∀ s, E1.gen s = E.gen s := by intro s; cases r <;> rfl
  have er : ∀ s, s ≠ r → E1.root s = E.root s := by
    intro s hs
    cases r with
    | slot n =>
      cases s with
      | slot m =>
        have : m ≠ n := fun e => hs (by rw [e])
        simp [E1, St.bump, St.setRoot, St.root, upd, this]
      | box m => rfl
      | ext m => rfl
      | hand => rfl
    | hand => exact absurd rfl hne
    | box n => cases s <;> simp [E1, St.bump, St.setRoot, St.root, upd, hs]
    | ext n => cases s <;> simp [E1, St.bump, St.setRoot, St.root, upd, hs]
  have hst : ∀ s, Steady w w' a a E E1 blk blk s := by
    intro s
    by_cases hs : s = r
    · subst hs
      refine ⟨.inl (by rw [evr]; omega), .inr ⟨eg s, fun i ad hv2 hp => ?_⟩⟩
      refine ⟨(by cases s <;> first | exact hv2 | (simp [pa] at hv2)), ?_⟩
      rcases hroot with ⟨n, t, rfl, _⟩ | ⟨hm, h1⟩
      · simp [pa] at hv2
      · have e1 : E.place s [] i = cs[i]? := by simp [St.place, hroot', cont]
        have e2 : E1.place s [] i = cs'[i]? := by
          cases s with
          | slot n => cases hm
          | hand => cases hm
          | box n => simp [E1, St.place, St.bump, St.setRoot, St.root, upd, cont]
          | ext n => simp [E1, St.place, St.bump, St.setRoot, St.root, upd, cont]
        rw [e1] at hp
        rw [e2]
        have hi : i < cs.length := by
          rcases Nat.lt_or_ge i cs.length with q2 | q2
          · exact q2
          · rw [List.getElem?_eq_none q2] at hp; cases hp
        rw [List.getElem?_eq_getElem (by omega)]
        rfl
    · by_cases hh : s = .hand
      · subst hh
        exact steady_none (ev _ hs) (eg _) (by simp [St.root, h.nohand])
      · exact steady_other h (ev s hs) (eg s) (er s hs) (fun _ _ => rfl) (fun _ => rfl)
          (fun b hb => hleft.keep b (h.inF s b hb).2 (fun hb1 => h.dis s r hs b hb (hF1 b hb1))) (fun b hb => hleft.keep b (h.inU s b hb).2 (fun hb1 => h.disU r s b (hF1 b hb1) hb))
  have hL : ∀ b ∈ A ++ G1 ++ B, (b ∈ FS r ∨ w.heap.size ≤ b) ∧ b < w'.heap.size := fun b hb => by
    rcases List.mem_append.1 hb with hb | hb
    · rcases List.mem_append.1 hb with hb | hb
      · have := hFin b (by rw [hFe]; simp [hb])
        exact ⟨.inl this, Nat.lt_of_lt_of_le (h.inF r b this).2 hleft.size⟩
      · obtain ⟨q1, q2⟩ := hGin b hb
        exact ⟨q1.imp (hF1 b) id, q2⟩
    · have := hFin b (by rw [hFe]; simp [hb])
      exact ⟨.inl this, Nat.lt_of_lt_of_le (h.inF r b this).2 hleft.size⟩
  have hGd : ∀ b ∈ G1, b ∉ A ∧ b ∉ B := fun b hb => by
    rcases (hGin b hb).1 with hb1 | hb1
    · exact n2 b hb1
    · refine ⟨fun hc => ?_, fun hc => ?_⟩
      · have := (h.inF r b (hFin b (by rw [hFe]; simp [hc]))).2; omega
      · have := (h.inF r b (hFin b (by rw [hFe]; simp [hc]))).2; omega
  have hnd2 : (A ++ G1 ++ B).Nodup := nodup_swap hFnd hGnd hGd
  have fin : ∀ L : List Nat, L.Nodup → (∀ b ∈ L, (b ∈ FS r ∨ w.heap.size ≤ b) ∧ b < w'.heap.size) → rootOk w' a E1 blk r L (C ++ [] ++ D) → ∃ FS' US', Rel w0 FA UA N w' a E1 blk FS' US' ∧ FS' .hand = [] ∧ US' .hand = [] := by
    intro L hLn hLi hok
    have k7 := h.two (w' := w') (a' := a) (E' := E1) (blk' := blk) (r1 := r) (r2 := .hand) (L1 := L) (L2 := []) (V1 := C ++ [] ++ D) (V2 := []) hne
      (by simpa using hLn)
      (fun b hb => by
        have := hLi b (by simpa using hb)
        exact ⟨this.1.imp id (fun q => .inr q), this.2⟩)
      (fun b hb => .inl ⟨r, by rw [hUe]; simpa using hb⟩)
      hleft.size hleft.os hleft.tape hleft.output (fun b hb q1 _ => hleft.keep b hb (fun hb1 => q1 (hF1 b hb1))) hst
      (fun n hn _ => ⟨by
        cases r with
        | slot m =>
          have : n ≠ m := fun e => hn (by rw [e])
          simp [E1, St.bump, St.setRoot, upd, this]
        | hand => exact absurd rfl hne
        | box m => rfl
        | ext m => rfl, rfl⟩)
      (fun s hm hs _ => ⟨by
        cases r with
        | slot m => rfl
        | hand => exact absurd rfl hne
        | box m => simp [E1, St.bump, St.setRoot, upd, hs]
        | ext m => simp [E1, St.bump, St.setRoot, upd, hs], rfl⟩)
      hok trivial
      (by
        cases r with
        | slot m => exact h.nohand
        | hand => exact absurd rfl hne
        | box m => simp [E1, St.bump, St.setRoot, upd, h.nohand]
        | ext m => simp [E1, St.bump, St.setRoot, upd, h.nohand]) h.len h.nodef
      (hfz := by
        intro n hn
        have e : E1.fz = E.fz := by show ((E.setRoot r cs').bump r).fz = E.fz; rw [bump_fz, setRoot_fz]
        exact h.frz n (e ▸ hn)) (hamb := by show ((E.setRoot r cs').bump r).amb = E.amb; rw [bump_amb, setRoot_amb])
    exact ⟨_, _, k7, upd_eq _ _ _, upd_eq _ _ _⟩
  have hrel : ∃ FS' US', Rel w0 FA UA N w' a E1 blk FS' US' ∧ FS' .hand = [] ∧ US' .hand = [] := by
    rcases hroot with ⟨n, t, rfl, h1, rfl, h2, h3⟩ | ⟨hm, h1⟩
    · refine fin (A ++ G1 ++ B) hnd2 hL ?_
      have hs := h.slot n
      rw [h1] at hs
      simp only [svX] at hs
      obtain ⟨t', ht'⟩ : ∃ t', cs' = [t'] := by
        have hl : cs'.length = 1 := hlen
        match hcs : cs', hl with
        | [t'], _ => exact ⟨t', rfl⟩
      have hvs : vs = [a.eval (.tmp n)] := by
        rcases hFS with ⟨_, m, e1, e2⟩ | ⟨_, hm, _⟩
        · injection e1 with e1
          subst e1
          exact e2
        · cases hm
      subst hvs
      have hsl : E1.slots n = .one t' := by
        show (upd E.slots n ((E.slots n).withCells cs')) n = _
        rw [upd_eq, h1, ht']
        rfl
      have hnr := hnewr
      rw [show updC [t] q (fun row => row.set j (.sl true e sz cells')) = [t'] from ht'] at hnr
      simp only [reps] at hnr
      obtain ⟨v5, vs5, F5, F6, U5, U6, q1, q2, q3, q4, q5, q6, q7⟩ := hnr
      injection q1 with q1 q8
      subst q1 q6 q7
      simp only [rootOk, hsl, svX]
      rw [q2, q3]
      simp only [List.append_nil]
      exact ⟨cellX_of_rep q4, fun _ => hs.2 h2⟩
    · rcases hFS with ⟨_, n, rfl, _⟩ | ⟨hFS, _, cur, T, hh, rfl, hbx⟩
      · cases hm
      have hbr : blk r ∈ FS r := by rw [hFS]; simp
      have hbn : blk r ∉ F := by
        have := h.nodup r
        rw [hFS] at this
        exact (List.nodup_cons.1 this).1
      have hbn2 : blk r ∉ A ∧ blk r ∉ F1 ∧ blk r ∉ B := by
        rw [hFe] at hbn
        simp only [List.mem_append, not_or] at hbn
        exact ⟨hbn.1.1, hbn.1.2, hbn.2⟩
      have hkb : w'.heap[blk r]? = w.heap[blk r]? := hleft.keep _ (h.inF r _ hbr).2 hbn2.2.1
      have hbG : blk r ∉ G1 := fun hc => by
        rcases (hGin _ hc).1 with q1 | q1
        · exact hbn2.2.1 q1
        · have := (h.inF r _ hbr).2
          omega
      refine fin (blk r :: (A ++ G1 ++ B)) (List.nodup_cons.2 ⟨by simp; exact ⟨hbn2.1, hbG, hbn2.2.2⟩, hnd2⟩) (fun b hb => ?_) ?_
      · rcases List.mem_cons.1 hb with rfl | hb
        · exact ⟨.inl hbr, Nat.lt_of_lt_of_le (h.inF r _ hbr).2 hleft.size⟩
        · exact hL b hb
      · have hok : ∃ cs2 cur T F0, E1.boxes r = some cs2 ∧ w'.heap[blk r]? = some (.cells cur T (0, 0)) ∧ reps w' cs2 cur.toList F0 (C ++ [] ++ D) ∧ (blk r :: (A ++ G1 ++ B)) = blk r :: F0 := by
          refine ⟨cs', cur, T, A ++ G1 ++ B, ?_, by rw [hkb]; exact hh, hnewr, rfl⟩
          cases r with
          | slot n => cases hm
          | hand => cases hm
          | box n => simp [E1, St.bump, St.setRoot, upd]
          | ext n => simp [E1, St.bump, St.setRoot, upd]
        cases r with
        | slot n => cases hm
        | hand => cases hm
        | box n => exact .inr hok
        | ext n => exact .inr hok
  obtain ⟨FS3, US3, t1, t2, t3⟩ := hrel
  obtain ⟨FS4, US4, u1, u2, u3⟩ := t1.land (w' := w') (d := d) (s := .one (.int k' m')) (v := .int k' m') (F := []) (U := []) hN (by simp [svX, cellX, rep, Value.cells]) List.nodup_nil (by simp) (by simp) (Nat.le_refl _) rfl rfl rfl (fun _ _ _ => rfl)
  rw [hd]
  rw [hd] at hK
  exact hK w' _ _ _ _ u1 u2 u3
end
def mkStF (ls : List (Nat × SV)) (bs : List (Root × List TV)) : St := { mkSt ls bs with fz := some 0 }
theorem gives_lent {P : Program} {f : FuncId} {fn : Func} {c : Code} {e sz : Nat} {cells cells' : List TV} {as : List AV} {res : SV} (hf : P.funcs[f]? = some fn) (hb : fn.body = some c)
    (h : Wp P fn.ntmps c (St.init (.sv (.one (.sl true e sz cells)) :: as) Amb.none (some 0)) fun e' E => (e' = .normal ∨ e' = .ret) ∧ ∃ ss E', resTake P E fn.results.toList = some (ss, E') ∧ packRes ss = res ∧ E'.slots 0 = .one (.sl true e sz cells') ∧ E'.fz = some 0) :
    Gives P f (.sv (.one (.sl true e sz cells)) :: as) res (.sv (.one (.sl true e sz cells')) :: List.replicate as.length .gone) := by
  intro w vs FA UA ha hnd hdis hlt
  obtain ⟨blk, FS, US, hr, hF, hU⟩ := Rel.init (N := fn.ntmps) ha hnd hdis hlt (A := Amb.none) (fz := some 0) trivial (fun b hb => by cases hb)
  have ha' := ha
  obtain ⟨v0, vs0, F1, F2, U1, U2, rfl, rfl, rfl, ha1, ha2⟩ := ha
  have hone0 : v0.cells = #[v0] := by
    simp only [avR, svR] at ha1
    exact ha1.2
  refine calls_of_wp hf hb (wp_mono (h _ _ _ _ _ _ _ _ hr hF hU) ?_)
  rintro e' a w' ⟨E, blk', FS', US', ⟨he, ss, E', h1, rfl, hsl, hfz⟩, h2, h3, h4⟩
  obtain ⟨us, FS2, US2, F, U, k1, k2, k3, k4, k5⟩ := resTake_rel h2 h1
  rw [h3, List.nil_append] at k4
  rw [h4, List.nil_append] at k5
  have hgone : ∀ (n : Nat) (vs : List Value), vs.length = n → argsR w' (List.replicate n .gone) vs [] [] := by
    intro n
    induction n with
    | zero => intro vs hv; simp at hv; subst hv; exact ⟨rfl, rfl, rfl⟩
    | succ n ih =>
      intro vs hv
      cases vs with
      | nil => simp at hv
      | cons v vs => exact ⟨v, vs, [], [], [], [], rfl, rfl, rfl, ⟨rfl, rfl⟩, ih vs (by simpa using hv)⟩
  have hvl : vs0.length = as.length := by
    obtain ⟨_, _, _, _, h5, _⟩ := argsR_get ha2
    exact h5
  have hev : a.eval (.tmp 0) = v0 := by
    rw [k3.frz 0 hfz]
    have e0 : ((v0 :: vs0).toArray ++ Array.replicate (fn.ntmps - (v0 :: vs0).toArray.size) undef)[0]? = some v0 := by
      rw [Array.getElem?_append_left (by simp)]
      rfl
    simp only [Function.comp, Act.eval, Array.getD_eq_getD_getElem?, e0, Option.getD_some]
  have hs := k3.slot 0
  rw [hsl, hev] at hs
  simp only [svX, cellX] at hs
  have hpost : a.defers = [] ∧ ∃ v, (results fn a.tmps).run P w' = .ok v w' ∧ ∃ v' F U G V, Ending.returned v = .returned v' ∧ Left w w' (F1 ++ F2) (U1 ++ U2) (packRes ss) (.sv (.one (.sl true e sz cells')) :: List.replicate as.length .gone) (v0 :: vs0) v' F U G V := by
    refine ⟨h2.nodef, _, run_results k1, _, F, U, FS2 (.slot 0), US2 (.slot 0), rfl, ?_⟩
    exact {
      res := packRes_rel k2
      fin := ⟨_, vs0, FS2 (.slot 0), [], US2 (.slot 0), [], rfl, by simp, by simp, ⟨hs.1, hone0⟩, hgone _ _ hvl⟩
      nodup := by
        rw [← k4, List.nodup_append]
        exact ⟨k3.nodup _, k3.nodup _, fun x hx y hy e => k3.dis .hand (.slot 0) (by simp) x hx (e ▸ hy)⟩
      dis := by
        intro b hb hb'
        rw [← k4] at hb
        rw [← k5] at hb'
        rcases List.mem_append.1 hb with hb | hb <;> rcases List.mem_append.1 hb' with hb' | hb'
        · exact k3.disU .hand .hand b hb hb'
        · exact k3.disU .hand (.slot 0) b hb hb'
        · exact k3.disU (.slot 0) .hand b hb hb'
        · exact k3.disU (.slot 0) (.slot 0) b hb hb'
      inF := by
        intro b hb
        rw [← k4] at hb
        rcases List.mem_append.1 hb with hb | hb
        · exact k3.inF .hand b hb
        · exact k3.inF (.slot 0) b hb
      inU := by
        intro b hb
        rw [← k5] at hb
        rcases List.mem_append.1 hb with hb | hb
        · exact k3.inU .hand b hb
        · exact k3.inU (.slot 0) b hb
      os := k3.os
      tape := k3.tape
      output := k3.output
      size := k3.size
      keep := fun b hb hF => k3.keep b hb hF (fun e => by cases e) }
  rcases he with rfl | rfl
  · exact hpost
  · exact hpost
theorem set_gi {α : Type} {f : α → List TV} {sz : Nat} (hf : ∀ x, (f x).length = sz) {l : List α} {i : Int} {x z : α} (h : gi l i = some x) {k : Nat} {t : TV} (hk : Nat.blt k sz = true) (he : (f x).set k t = f z) : (encs f l).set (i.toNat * sz + k) t = encs f (si l i z) :=
  set_encs hf (gi_some h).2.2 (by simpa [Nat.blt_eq] using hk) he
theorem At.nl {cs cs' : List TV} {g : List TV → List TV} (h : g cs = cs') : At cs [] cs g cs' := ⟨by simp [cont], by simp [ownP], by simp [updC, h]⟩
section
variable {N : Nat} {E : St} {P : Program} {ops : Array Oper} {oo : Oper} {rest : List Oper} {Q : Exit → St → Prop} {α β : Type} {rr : β}
theorem LWp.leb {x : Option α} {k : α → Option β} (h : x.bind k = some rr) (r : Root) (q : List Nat) (j : Nat) (cs : List TV) {row : List TV} (d : Nat) {e sz : Nat} (cells : List TV) (m : Int) (res : α → Int) (fin cs' : α → List TV) {f : FuncId} {x1 x2 : Operand} {tys : Array TypeId} {fn : Func}
    (ho : oo.op = .call { callee := .value (.func f), args := #[x1, x2], argTypes := tys })
    (A : ∀ v, At cs q row (fun row => row.set j (.sl true e sz (fin v))) (cs' v)) (hpl : row[j]? = some (.sl true e sz cells))
    (hgv : ∀ v, x = some v → Gives P f [.sv (.one (.sl true e sz cells)), .sv (I m)] (I (res v)) [.sv (.one (.sl true e sz (fin v))), .gone])
    (hns : hasShareds cells = false) (hns' : ∀ v, hasShareds (fin v) = false)
    (hk : ∀ v, x = some v → k v = some rr → LWp P N ops rest (((E.setRoot r (cs' v)).bump r).put (some d) (I (res v))) Q)
    (hroot : (∃ n t, r = .slot n ∧ E.slots n = .one t ∧ cs = [t] ∧ t.isJunk = false ∧ (∀ w v F U a E blk, cellX w a E blk t v F U → rep w t v F U)) ∨ (r.mem = true ∧ E.boxes r = some cs))
    (hx : E.ref x1 = some (r, q, j) := by rfl) (hy : E.cell1 P 0 x2 = some (.int .i64 m) := by rfl)
    (hf : P.funcs[f]? = some fn := by rfl) (hn : (fn.name == "runtime.NumGoroutine") = false := by rfl) (hb : fn.body.isNone = false := by rfl) (hd : oo.dst = some d := by rfl) (hN : Nat.blt d N = true := by rfl) (hg : guardOpen P ops E oo = some true := by rfl) : LWp P N ops (oo :: rest) E Q := by
  obtain ⟨v, hv, h⟩ := Option.bind_eq_some_iff.1 h
  intro w0 FA UA w a blk FS US hr hF hU
  simp only [wpList, guard_rel hr hg, if_true]
  refine .inl (call_lent hr hF hU ho ⟨fn, hf, by intro e; rw [e] at hn; simp at hn, hb⟩ hd (by simpa [Nat.blt_eq] using hN) hx hroot (A v).o (cells' := fin v) (by rw [(A v).c]; exact hpl) hns (hns' v) hy (hgv v hv) fun w' v' blk' FS' US' k1 k2 k3 => ?_)
  rw [hd] at k1 ⊢
  rw [(A v).u] at k1
  exact hk v hv h _ _ _ _ _ _ _ _ k1 k2 k3
end
section
variable {N : Nat} {E : St} {P : Program}
theorem wr {id : Nat} {l : List Oper} {y : Code} {Q : Exit → St → Prop} (h : LWp P N l.toArray l E (thenQ (fun E' => Wp P N y E' Q) Q)) : Wp P N (.seq (.region id l.toArray false) y) E Q := Wp.seq (Wp.region h)
end
end Go.TI
namespace Go.TI
open Go Go.RowKit
set_option linter.unusedSimpArgs false
set_option linter.unusedVariables false
def le1 (t t' : TV) : Prop := t = t' ∨ ∃ e sz cells cells', t = .sl true e sz cells ∧ shares cells = cells' ∧ t' = .sl false e sz cells'
def les : List TV → List TV → Prop
  | [], ts' => ts' = []
  | t :: ts, ts' => ∃ x xs, ts' = x :: xs ∧ le1 t x ∧ les ts xs
mutual
def SVle : SV → SV → Prop
  | .one t, s' => ∃ t', s' = .one t' ∧ le1 t t'
  | .agg cs, s' => ∃ cs', s' = .agg cs' ∧ les cs cs'
  | .tup ss, s' => ∃ ss', s' = .tup ss' ∧ SVles ss ss'
def SVles : List SV → List SV → Prop
  | [], ss' => ss' = []
  | s :: ss, ss' => ∃ x xs, ss' = x :: xs ∧ SVle s x ∧ SVles ss xs
end
theorem le1.r {t : TV} : le1 t t := .inl rfl
theorem les.r : ∀ {ts : List TV}, les ts ts
  | [] => rfl
  | t :: ts => ⟨t, ts, rfl, le1.r, les.r⟩
theorem les.c {t x : TV} {ts xs : List TV} (h : le1 t x) (k : les ts xs) : les (t :: ts) (x :: xs) := ⟨x, xs, rfl, h, k⟩
theorem le1.s {e sz : Nat} {cells cells' : List TV} (h : shares cells = cells') : le1 (.sl true e sz cells) (.sl false e sz cells') := .inr ⟨e, sz, cells, cells', rfl, h, rfl⟩
mutual
theorem SVle.r : ∀ {s : SV}, SVle s s
  | .one t => ⟨t, rfl, le1.r⟩
  | .agg cs => ⟨cs, rfl, les.r⟩
  | .tup ss => ⟨ss, rfl, SVles.r⟩
theorem SVles.r : ∀ {ss : List SV}, SVles ss ss
  | [] => rfl
  | s :: ss => ⟨s, ss, rfl, SVle.r, SVles.r⟩
end
theorem SVle.a {cs cs' : List TV} (h : les cs cs') : SVle (.agg cs) (.agg cs') := ⟨cs', rfl, h⟩
theorem SVle.o {t t' : TV} (h : le1 t t') : SVle (.one t) (.one t') := ⟨t', rfl, h⟩
theorem SVle.t {ss ss' : List SV} (h : SVles ss ss') : SVle (.tup ss) (.tup ss') := ⟨ss', rfl, h⟩
theorem SVles.c {s x : SV} {ss xs : List SV} (h : SVle s x) (k : SVles ss xs) : SVles (s :: ss) (x :: xs) := ⟨x, xs, rfl, h, k⟩
def lessB (F U F' U' : List Nat) : Prop := F'.Sublist F ∧ ∀ b ∈ U', b ∈ U ∨ (b ∈ F ∧ b ∉ F')
theorem lessB.app {F1 F2 U1 U2 F1' F2' U1' U2' : List Nat} (hd : (F1 ++ F2).Nodup) (h : lessB F1 U1 F1' U1') (k : lessB F2 U2 F2' U2') : lessB (F1 ++ F2) (U1 ++ U2) (F1' ++ F2') (U1' ++ U2') := by
  obtain ⟨_, _, hd⟩ := List.nodup_append.1 hd
  refine ⟨h.1.append k.1, fun b hb => ?_⟩
  rcases List.mem_append.1 hb with hb | hb
  · rcases h.2 b hb with q | ⟨q1, q2⟩
    · exact .inl (by simp [q])
    · refine .inr ⟨by simp [q1], fun hc => ?_⟩
      rcases List.mem_append.1 hc with hc | hc
      · exact q2 hc
      · exact hd b q1 b (k.1.subset hc) rfl
  · rcases k.2 b hb with q | ⟨q1, q2⟩
    · exact .inl (by simp [q])
    · refine .inr ⟨by simp [q1], fun hc => ?_⟩
      rcases List.mem_append.1 hc with hc | hc
      · exact hd b (h.1.subset hc) b q1 rfl
      · exact q2 hc
theorem lessB.refl {F U : List Nat} : lessB F U F U := ⟨List.Sublist.refl _, fun b hb => .inl hb⟩
theorem Left.le {w w' : World} {FA UA : List Nat} {res res' : SV} {fin fin' : List AV} {vs : List Value} {v : Value} {F U G V F' U' G' V' : List Nat} (h : Left w w' FA UA res fin vs v F U G V) (h1 : svR w' res' v F' U') (h2 : argsR w' fin' vs G' V') (h3 : lessB (F ++ G) (U ++ V) (F' ++ G') (U' ++ V')) : Left w w' FA UA res' fin' vs v F' U' G' V' := by
  exact {
    res := h1
    fin := h2
    nodup := h3.1.nodup h.nodup
    dis := fun b hb hb' => by
      rcases h3.2 b hb' with q | ⟨q1, q2⟩
      · exact h.dis b (h3.1.subset hb) q
      · exact q2 hb
    inF := fun b hb => h.inF b (h3.1.subset hb)
    inU := fun b hb => by
      rcases h3.2 b hb with q | ⟨q1, q2⟩
      · exact h.inU b q
      · obtain ⟨q3, q4⟩ := h.inF b q1
        exact ⟨.inr q3, q4⟩
    os := h.os
    tape := h.tape
    output := h.output
    size := h.size
    keep := h.keep }
section
variable {N : Nat} {E : St} {P : Program} {ops : Array Oper} {oo : Oper} {rest : List Oper} {Q : Exit → St → Prop} {α β : Type} {rr : β}
theorem LWp.cv {x : Option α} {k : α → Option β} (h : x.bind k = some rr) (l : List (Bool × TypeId × Operand)) (m : List (Root × List TV)) (d : Nat) (enc : α → SV) {f : FuncId} {args : Array Operand} {tys : Array TypeId} {fn : Func} {avl : List AV} {n : Nat} {c : Bool} {ss : List (Option SV)}
    (ho : oo.op = .call { callee := .value (.func f), args := args, argTypes := tys }) (hl : l.map (fun x => x.2.2) = args.toList)
    (hmv : mvArgs P E l = some (ss, mvs E m)) (hsh : shArgs P (mvs E m) l ss = some (avl, c))
    (hgv : ∀ v, x = some v → Gives P f avl (enc v) (List.replicate n .gone)) (hc : c = true ∨ ∀ v, svShared (enc v) = false)
    (hk : ∀ v, x = some v → k v = some rr → LWp P N ops rest ((mvs E m).put (some d) (enc v)) Q)
    (hf : P.funcs[f]? = some fn := by rfl) (hn : (fn.name == "runtime.NumGoroutine") = false := by rfl) (hb : fn.body.isNone = false := by rfl) (hd : oo.dst = some d := by rfl) (hN : Nat.blt d N = true := by rfl) (hg : guardOpen P ops E oo = some true := by rfl) : LWp P N ops (oo :: rest) E Q := by
  obtain ⟨v, hv, h⟩ := Option.bind_eq_some_iff.1 h
  exact LWp.call ho ⟨fn, hf, by intro e; rw [e] at hn; simp at hn, hb⟩ hg (fun d' hd' => by rw [hd] at hd'; injection hd' with hd'; subst hd'; simpa [Nat.blt_eq] using hN) l hl (hgv v hv)
    ⟨ss, mvs E m, c, hmv, hsh, hc.imp id (fun h => h v), by rw [hd]⟩ (hk v hv h)
theorem KOp.cv {ts : List Nat} {K : St → Prop} {QQ : Exit → St → Prop} {x : Option α} {k : α → Option β} (h : x.bind k = some rr) (i : Nat) (l : List (Bool × TypeId × Operand)) (m : List (Root × List TV)) (d : Nat) (enc : α → SV) {f : FuncId} {args : Array Operand} {tys : Array TypeId} {fn : Func} {avl : List AV} {n : Nat} {c : Bool} {ss : List (Option SV)}
    (hi : ops[i]? = some oo) (ho : oo.op = .call { callee := .value (.func f), args := args, argTypes := tys }) (hl : l.map (fun x => x.2.2) = args.toList)
    (hmv : mvArgs P E l = some (ss, mvs E m)) (hsh : shArgs P (mvs E m) l ss = some (avl, c))
    (hgv : ∀ v, x = some v → Gives P f avl (enc v) (List.replicate n .gone)) (hc : c = true ∨ ∀ v, svShared (enc v) = false)
    (hk : ∀ v, x = some v → k v = some rr → K ((mvs E m).put (some d) (enc v))) (hts : ts.contains i = true := by decide)
    (hf : P.funcs[f]? = some fn := by rfl) (hn : (fn.name == "runtime.NumGoroutine") = false := by rfl) (hb : fn.body.isNone = false := by rfl) (hd : oo.dst = some d := by rfl) (hN : Nat.blt d N = true := by rfl) (hg : guardOpen P ops E oo = some true := by rfl) : KOp P N ops ts i E K QQ := by
  obtain ⟨v, hv, h⟩ := Option.bind_eq_some_iff.1 h
  intro w0 FA UA w a blk FS US hr hF hU
  unfold wpOp
  simp only [hi, guard_rel hr hg, if_true]
  exact .inl (call_step hr hF hU ho ⟨fn, hf, by intro e; rw [e] at hn; simp at hn, hb⟩ (fun d' hd' => by rw [hd] at hd'; injection hd' with hd'; subst hd'; simpa [Nat.blt_eq] using hN) hl (hgv v hv)
    ⟨ss, mvs E m, c, hmv, hsh, hc.imp id (fun h => h v), by rw [hd]⟩ fun w' v' blk' FS' US' k1 k2 k3 _ => ⟨fun ht => (by rw [hts] at ht; cases ht), _, _, _, _, hk v hv h, k1, k2, k3⟩)
end
end Go.TI
