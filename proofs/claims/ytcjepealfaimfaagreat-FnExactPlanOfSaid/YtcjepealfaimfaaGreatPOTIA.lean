/- An interpreter of loaded Go code on trees, for every program: the trees, the state and its updates: definitions. No condition; no program is in sight. -/
import Derived.Calls
import Derived.WalkKit
import Derived.Laws.AppendOwn
import Derived.Laws.OwnMore
import Derived.OrdersHeld
import Derived.Laws.Cells
import Derived.Laws.Entries
import Derived.ChangeKeysEq
import Derived.Laws.BytesArg
namespace Go.TI
open Go
inductive Root where
  | slot (n : Nat)
  | box (n : Nat)
  | ext (n : Nat)
  | hand
  deriving DecidableEq
inductive TV where
  | int (k : IntKind) (n : Int)
  | bool (b : Bool)
  | str (s : ByteArray)
  | fn (f : Fn) (ta cap : Array Value)
  | adr (ad : Addr)
  | hdr (ad : Addr) (n c : Nat)
  | sl (own : Bool) (e sz : Nat) (cells : List TV)
  | view (r : Root) (ver : Nat) (q : List Nat) (j : Nat)
  | ptr (r : Root) (ver : Nat) (q : List Nat) (j : Nat)
  | junk
inductive SV where
  | one (t : TV)
  | agg (cells : List TV)
  | tup (vs : List SV)
structure Amb where
  B : List Nat
  I : World → Prop
  st : ∀ w w', I w → (∀ b ∈ B, w'.heap[b]? = w.heap[b]?) → I w'
  rd : Addr → Option Value := fun _ => Option.none
  rdI : ∀ w ad v, I w → rd ad = some v → w.cell? ad = some v := by intro w ad v _ h; cases h
def Amb.none : Amb where
  B := []
  I := fun _ => True
  st := fun _ _ _ _ => trivial
structure St where
  slots : Nat → SV
  boxes : Root → Option (List TV)
  ver : Root → Nat
  gen : Root → Nat
  amb : Amb := Amb.none
  fz : Option Nat := Option.none
def St.stamp (E : St) (r : Root) (q : List Nat) : Nat := match q with
  | [] => E.gen r
  | _ => E.ver r
def SV.cells : SV → List TV
  | .one t => [t]
  | .agg cs => cs
  | .tup _ => []
def upd {α β : Type} [DecidableEq α] (f : α → β) (a : α) (b : β) : α → β := fun x => if x = a then b else f x
def St.root (E : St) : Root → Option (List TV)
  | .slot n => some (E.slots n).cells
  | r => E.boxes r
def SV.withCells : SV → List TV → SV
  | .one _, [t] => .one t
  | .agg _, cs => .agg cs
  | s, _ => s
def St.setRoot (E : St) (r : Root) (cs : List TV) : St :=
  match r with
  | .slot n => { E with slots := upd E.slots n ((E.slots n).withCells cs) }
  | r => { E with boxes := upd E.boxes r (some cs) }
def St.bump (E : St) (r : Root) : St := { E with ver := upd E.ver r (E.ver r + 1) }
theorem setRoot_amb {E : St} {r : Root} {cs : List TV} : (E.setRoot r cs).amb = E.amb := by cases r <;> rfl
theorem setRoot_fz {E : St} {r : Root} {cs : List TV} : (E.setRoot r cs).fz = E.fz := by cases r <;> rfl
theorem bump_fz {E : St} {r : Root} : (E.bump r).fz = E.fz := rfl
theorem bump_amb {E : St} {r : Root} : (E.bump r).amb = E.amb := rfl
def cont : List TV → List Nat → Option (List TV)
  | cs, [] => some cs
  | cs, c :: q => match cs[c]? with
    | some (.sl _ _ _ cells) => cont cells q
    | _ => none
def ownP : List TV → List Nat → Bool
  | _, [] => true
  | cs, c :: q => match cs[c]? with
    | some (.sl o _ _ cells) => o && ownP cells q
    | _ => false
def updC : List TV → List Nat → (List TV → List TV) → List TV
  | cs, [], f => f cs
  | cs, c :: q, f => match cs[c]? with
    | some (.sl o e sz cells) => cs.set c (.sl o e sz (updC cells q f))
    | _ => cs
def setRow {α : Type} (cs : List α) (j : Nat) (xs : List α) : List α := cs.take j ++ xs ++ cs.drop (j + xs.length)
def TV.isSl : TV → Bool
  | .sl .. => true
  | _ => false
def TV.isJunk : TV → Bool
  | .junk => true
  | _ => false
mutual
def share : TV → TV
  | .sl _ e sz cells => .sl false e sz (shares cells)
  | t => t
def shares : List TV → List TV
  | [] => []
  | t :: ts => share t :: shares ts
end
mutual
def hasShared : TV → Bool
  | .sl o _ _ cells => !o || hasShareds cells
  | .int .. | .bool _ | .str _ | .fn .. | .adr .. | .hdr .. => false
  | _ => true
def hasShareds : List TV → Bool
  | [] => false
  | t :: ts => hasShared t || hasShareds ts
end
def see (E : St) (r : Root) (q : List Nat) (c : Nat) (t : TV) : TV :=
  match t with
  | .sl true _ _ _ => .view r (E.ver r) q c
  | t => t
def sees (E : St) (r : Root) (q : List Nat) : Nat → List TV → List TV
  | _, [] => []
  | c, t :: ts => see E r q c t :: sees E r q (c + 1) ts
section
variable (P : Program)
def constTV (t : TypeId) : Value → Option TV
  | .int k n => some (.int k n)
  | .bool b => some (.bool b)
  | .string s => some (.str s)
  | .slice none 0 0 => match P.underlying t with
    | some (.slice e) => some (.sl true e (P.cellsOf e) [])
    | _ => none
  | _ => none
def St.val (E : St) (t : TypeId) : Operand → Option SV
  | .tmp n => match E.slots n with
    | .one x => some (.one (see E (.slot n) [] 0 x))
    | .agg cs => some (.agg (sees E (.slot n) [] 0 cs))
    | .tup _ => none
  | .const v => (constTV P t v).map .one
  | _ => none
def fzPut (f : Option Nat) (d : Nat) : Option Nat := match f with
  | some n => bif Nat.beq n d then none else some n
  | none => none
theorem fzPut_some {f : Option Nat} {d n : Nat} (h : fzPut f d = some n) : f = some n ∧ n ≠ d := by
  unfold fzPut at h
  cases f with
  | none => cases h
  | some m =>
    simp only at h
    cases hb : Nat.beq m d with
    | true => rw [hb] at h; cases h
    | false =>
      rw [hb] at h
      injection h with h
      subst h
      exact ⟨rfl, fun e => by subst e; simp at hb⟩
def St.put (E : St) (d : Option Tmp) (s : SV) : St :=
  match d with
  | some d => { E with slots := upd E.slots d s, ver := upd E.ver (.slot d) (E.ver (.slot d) + 1), fz := fzPut E.fz d }
  | none => E
end
end Go.TI
namespace Go.TI
open Go Go.RowKit
def blkOf (v : Value) : List Nat := v.ownBlock.toList
def Reads (w : World) (v : Value) (vs : List Value) : Prop := ∀ i u, vs[i]? = some u → ∃ ad n c, v = .slice (some ad) n c ∧ w.cell? (ad.add i) = some u
mutual
def rep (w : World) : TV → Value → List Nat → List Nat → Prop
  | .int k n, v, F, U => v = .int k n ∧ F = [] ∧ U = []
  | .bool b, v, F, U => v = .bool b ∧ F = [] ∧ U = []
  | .str s, v, F, U => v = .string s ∧ F = [] ∧ U = []
  | .fn f ta cap, v, F, U => v = .func f ta cap ∧ F = [] ∧ U = []
  | .adr ad, v, F, U => v = .pointer (some ad) ∧ F = [] ∧ U = []
  | .hdr ad n c, v, F, U => v = .slice (some ad) n c ∧ F = [] ∧ U = []
  | .sl true e sz cells, v, F, U => ∃ n vs F', w.ownsRow 0 e sz v n vs ∧ reps w cells vs F' U ∧ F = blkOf v ++ F'
  | .sl false _ sz cells, v, F, U => ∃ A n c vs U' B, v = .slice A n c ∧ n ≤ c ∧ vs.length = n * sz ∧ Reads w v vs ∧ reps w cells vs [] U' ∧ F = [] ∧ (B = blkOf v ∨ vs = [] ∧ B = []) ∧ U = B ++ U'
  | .junk, v, F, U => v.oneCell' = true ∧ F = [] ∧ U = []
  | _, _, _, _ => False
def reps (w : World) : List TV → List Value → List Nat → List Nat → Prop
  | [], vs, F, U => vs = [] ∧ F = [] ∧ U = []
  | t :: ts, vs, F, U => ∃ v vs' F1 F2 U1 U2, vs = v :: vs' ∧ F = F1 ++ F2 ∧ U = U1 ++ U2 ∧ rep w t v F1 U1 ∧ reps w ts vs' F2 U2
end
theorem reps_len {w : World} : ∀ {ts : List TV} {vs F U}, reps w ts vs F U → vs.length = ts.length
  | [], vs, F, U, h => by simp only [reps] at h; simp [h.1]
  | t :: ts, vs, F, U, h => by
    simp only [reps] at h
    obtain ⟨v, vs', F1, F2, U1, U2, rfl, _, _, _, h2⟩ := h
    simp [reps_len h2]
theorem cell_of_blk {w w' : World} {a : Addr} (h : w'.heap[a.block]? = w.heap[a.block]?) : w'.cell? a = w.cell? a := World.cell?_of_block h
theorem add_block (a : Addr) (i : Nat) : (a.add i).block = a.block := by unfold Addr.add; split <;> rfl
theorem Reads.move {w w' : World} {v : Value} {vs : List Value} (h : Reads w v vs) (hb : ∀ b ∈ blkOf v, w'.heap[b]? = w.heap[b]?) : Reads w' v vs := by
  intro i u hi
  obtain ⟨ad, n, c, rfl, hc⟩ := h i u hi
  refine ⟨ad, n, c, rfl, ?_⟩
  rw [← hc]
  exact cell_of_blk (by rw [add_block]; exact hb _ (by simp [blkOf, Value.ownBlock]))
theorem Reads.moveB {w w' : World} {v : Value} {vs : List Value} {B : List Nat} (h : Reads w v vs) (hB : B = blkOf v ∨ vs = [] ∧ B = []) (hb : ∀ b ∈ B, w'.heap[b]? = w.heap[b]?) : Reads w' v vs := by
  rcases hB with rfl | ⟨rfl, _⟩
  · exact h.move hb
  · intro i u hi; simp at hi
mutual
theorem rep_move {w w' : World} : ∀ {t : TV} {v F U}, rep w t v F U → (∀ b ∈ F, w'.heap[b]? = w.heap[b]?) → (∀ b ∈ U, w'.heap[b]? = w.heap[b]?) → rep w' t v F U
  | .int .., v, F, U, h, _, _ => by simpa only [rep] using h
  | .bool _, v, F, U, h, _, _ => by simpa only [rep] using h
  | .str _, v, F, U, h, _, _ => by simpa only [rep] using h
  | .fn .., v, F, U, h, _, _ => by simpa only [rep] using h
  | .adr .., v, F, U, h, _, _ => by simpa only [rep] using h
  | .hdr .., v, F, U, h, _, _ => by simpa only [rep] using h
  | .junk, v, F, U, h, _, _ => by simpa only [rep] using h
  | .view .., v, F, U, h, _, _ => by simp only [rep] at h
  | .ptr .., v, F, U, h, _, _ => by simp only [rep] at h
  | .sl true e sz cells, v, F, U, h, hF, hU => by
    simp only [rep] at h ⊢
    obtain ⟨n, vs, F', ho, hr, rfl⟩ := h
    refine ⟨n, vs, F', ?_, reps_move hr (fun b hb => hF b (List.mem_append_right _ hb)) hU, rfl⟩
    refine ⟨ho.1, ?_⟩
    rcases ho.2 with h0 | ⟨g, cap, cur, rfl, hg, hh, r⟩
    · exact .inl h0
    · exact .inr ⟨g, cap, cur, rfl, hg, (hF g (by simp [blkOf, Value.ownBlock])).trans hh, r⟩
  | .sl false e sz cells, v, F, U, h, hF, hU => by
    simp only [rep] at h ⊢
    obtain ⟨A, n, c, vs, U', B, rfl, hn, hl, hrd, hr, rfl, hB, rfl⟩ := h
    exact ⟨A, n, c, vs, U', B, rfl, hn, hl, hrd.moveB hB (fun b hb => hU b (List.mem_append_left _ hb)), reps_move hr (by simp) (fun b hb => hU b (List.mem_append_right _ hb)), rfl, hB, rfl⟩
theorem reps_move {w w' : World} : ∀ {ts : List TV} {vs F U}, reps w ts vs F U → (∀ b ∈ F, w'.heap[b]? = w.heap[b]?) → (∀ b ∈ U, w'.heap[b]? = w.heap[b]?) → reps w' ts vs F U
  | [], vs, F, U, h, _, _ => by simpa only [reps] using h
  | t :: ts, vs, F, U, h, hF, hU => by
    simp only [reps] at h ⊢
    obtain ⟨v, vs', F1, F2, U1, U2, rfl, rfl, rfl, h1, h2⟩ := h
    exact ⟨v, vs', F1, F2, U1, U2, rfl, rfl, rfl,
      rep_move h1 (fun b hb => hF b (List.mem_append_left _ hb)) (fun b hb => hU b (List.mem_append_left _ hb)),
      reps_move h2 (fun b hb => hF b (List.mem_append_right _ hb)) (fun b hb => hU b (List.mem_append_right _ hb))⟩
end
theorem own_Reads {w : World} {e sz n : Nat} {v : Value} {vs : List Value} (h : w.ownsRow 0 e sz v n vs) : Reads w v vs := by
  intro i u hi
  have hl := (List.getElem?_eq_some_iff.1 hi).1
  rcases h.2 with ⟨_, h0⟩ | ⟨g, cap, cur, rfl, _⟩
  · have := h.1
    subst h0
    simp at this
    subst this
    simp at hi
  · exact ⟨_, _, _, rfl, h.cells rfl i u hi⟩
mutual
theorem rep_share {w : World} : ∀ {t : TV} {v F U}, rep w t v F U → ∃ U', rep w (share t) v [] U' ∧ ∀ b ∈ U', b ∈ F ∨ b ∈ U
  | .int .., v, F, U, h => by simp only [rep, share] at h ⊢; exact ⟨[], by simp [h.1], by simp⟩
  | .bool _, v, F, U, h => by simp only [rep, share] at h ⊢; exact ⟨[], by simp [h.1], by simp⟩
  | .str _, v, F, U, h => by simp only [rep, share] at h ⊢; exact ⟨[], by simp [h.1], by simp⟩
  | .fn .., v, F, U, h => by simp only [rep, share] at h ⊢; exact ⟨[], by simp [h.1], by simp⟩
  | .adr .., v, F, U, h => by simp only [rep, share] at h ⊢; exact ⟨[], by simp [h.1], by simp⟩
  | .hdr .., v, F, U, h => by simp only [rep, share] at h ⊢; exact ⟨[], by simp [h.1], by simp⟩
  | .junk, v, F, U, h => by simp only [rep, share] at h ⊢; exact ⟨[], by simp [h.1], by simp⟩
  | .view .., v, F, U, h => by simp only [rep] at h
  | .ptr .., v, F, U, h => by simp only [rep] at h
  | .sl true e sz cells, v, F, U, h => by
    simp only [rep, share] at h ⊢
    obtain ⟨n, vs, F', ho, hr, rfl⟩ := h
    obtain ⟨U', hr', hU'⟩ := reps_share hr
    have hrd := own_Reads ho
    have hs : ∃ A c, v = .slice A n c ∧ n ≤ c := by
      rcases ho.2 with ⟨rfl, rfl⟩ | ⟨g, cap, cur, rfl, _, _, hc, _⟩
      · exact ⟨none, 0, rfl, Nat.le_refl _⟩
      · exact ⟨_, _, rfl, hc⟩
    obtain ⟨A, c, rfl, hc⟩ := hs
    refine ⟨_, ⟨A, n, c, vs, U', _, rfl, hc, ho.1, hrd, hr', by simp, .inl rfl, rfl⟩, fun b hb => ?_⟩
    rcases List.mem_append.1 hb with hb | hb
    · exact .inl (List.mem_append_left _ hb)
    · exact (hU' b hb).imp (List.mem_append_right _) id
  | .sl false e sz cells, v, F, U, h => by
    simp only [rep, share] at h ⊢
    obtain ⟨A, n, c, vs, U', B, rfl, hn, hl, hrd, hr, rfl, hB, rfl⟩ := h
    obtain ⟨U2, hr', hU'⟩ := reps_share hr
    refine ⟨_, ⟨A, n, c, vs, U2, B, rfl, hn, hl, hrd, hr', by simp, hB, rfl⟩, fun b hb => ?_⟩
    rcases List.mem_append.1 hb with hb | hb
    · exact .inr (List.mem_append_left _ hb)
    · rcases hU' b hb with hb | hb
      · simp at hb
      · exact .inr (List.mem_append_right _ hb)
theorem reps_share {w : World} : ∀ {ts : List TV} {vs F U}, reps w ts vs F U → ∃ U', reps w (shares ts) vs [] U' ∧ ∀ b ∈ U', b ∈ F ∨ b ∈ U
  | [], vs, F, U, h => by simp only [reps, shares] at h ⊢; exact ⟨[], by simp [h.1], by simp⟩
  | t :: ts, vs, F, U, h => by
    simp only [reps, shares] at h ⊢
    obtain ⟨v, vs', F1, F2, U1, U2, rfl, rfl, rfl, h1, h2⟩ := h
    obtain ⟨Ua, ha, hUa⟩ := rep_share h1
    obtain ⟨Ub, hb, hUb⟩ := reps_share h2
    refine ⟨Ua ++ Ub, ⟨v, vs', [], [], Ua, Ub, rfl, by simp, rfl, ha, hb⟩, fun b hb => ?_⟩
    rcases List.mem_append.1 hb with hb | hb
    · exact (hUa b hb).imp (List.mem_append_left _) (List.mem_append_left _)
    · exact (hUb b hb).imp (List.mem_append_right _) (List.mem_append_right _)
end
end Go.TI
namespace Go.TI
open Go Go.RowKit
def baseFrom (w : World) : Addr → List Nat → Option Addr
  | ad, [] => some ad
  | ad, c :: q => match w.cell? (ad.add c) with
    | some (.slice (some ad') _ _) => baseFrom w ad' q
    | _ => none
def baseV (w : World) (v : Value) (q : List Nat) : Option Addr :=
  match v with
  | .slice (some ad) _ _ => baseFrom w ad q
  | _ => none
theorem set_self {α : Type} {l : List α} {i : Nat} {a : α} (h : l[i]? = some a) : l.set i a = l := by
  apply List.ext_getElem?
  intro j
  rw [List.getElem?_set]
  have hl := (List.getElem?_eq_some_iff.1 h).1
  split
  · rename_i hij
    subst hij
    first | exact h.symm | (rw [if_pos hl, h])
  · rfl
theorem baseFrom_cons {w : World} {ad : Addr} {c : Nat} {q : List Nat} {v : Value} (h : w.cell? (ad.add c) = some v) : baseFrom w ad (c :: q) = baseV w v q := by
  simp only [baseFrom, h, baseV]
  cases v <;> try rfl
  rename_i a _ _
  cases a <;> rfl
theorem reps_get {w : World} : ∀ {ts : List TV} {vs F U} (c : Nat) {t : TV}, reps w ts vs F U → ts[c]? = some t →
    ∃ v A B C D F1 U1, vs[c]? = some v ∧ rep w t v F1 U1 ∧ F = A ++ F1 ++ B ∧ U = C ++ U1 ++ D ∧
      ∀ w' t' v' F1' U1', rep w' t' v' F1' U1' → (∀ b ∈ A ++ B, w'.heap[b]? = w.heap[b]?) → (∀ b ∈ C ++ D, w'.heap[b]? = w.heap[b]?) →
        reps w' (ts.set c t') (vs.set c v') (A ++ F1' ++ B) (C ++ U1' ++ D)
  | [], vs, F, U, c, t, h, hc => by simp at hc
  | t0 :: ts, vs, F, U, 0, t, h, hc => by
    simp only [reps] at h
    obtain ⟨v, vs', F1, F2, U1, U2, rfl, rfl, rfl, h1, h2⟩ := h
    simp at hc
    subst hc
    refine ⟨v, [], F2, [], U2, F1, U1, rfl, h1, rfl, rfl, fun w' t' v' F1' U1' hr hA hC => ?_⟩
    simp only [List.set_cons_zero, reps]
    exact ⟨v', vs', F1', F2, U1', U2, rfl, rfl, rfl, hr, reps_move h2 (by simpa using hA) (by simpa using hC)⟩
  | t0 :: ts, vs, F, U, c + 1, t, h, hc => by
    simp only [reps] at h
    obtain ⟨v, vs', F1, F2, U1, U2, rfl, rfl, rfl, h1, h2⟩ := h
    simp at hc
    obtain ⟨u, A, B, C, D, G, V, hu, hr, rfl, rfl, hk⟩ := reps_get c h2 hc
    refine ⟨u, F1 ++ A, B, U1 ++ C, D, G, V, by simpa using hu, hr, by simp, by simp, fun w' t' v' F1' U1' hr' hA hC => ?_⟩
    simp only [List.set_cons_succ, reps]
    refine ⟨v, vs'.set c v', F1, A ++ F1' ++ B, U1, C ++ U1' ++ D, rfl, by simp, by simp, rep_move h1 ?_ ?_, hk w' t' v' F1' U1' hr' ?_ ?_⟩
    · exact fun b hb => hA b (by simp [hb])
    · exact fun b hb => hC b (by simp [hb])
    · exact fun b hb => hA b (by simp at hb ⊢; rcases hb with hb | hb <;> simp [hb])
    · exact fun b hb => hC b (by simp at hb ⊢; rcases hb with hb | hb <;> simp [hb])
theorem cont_rep {w : World} : ∀ (q : List Nat) {cs : List TV} {vs F U} {row : List TV}, reps w cs vs F U → cont cs q = some row →
    ∃ rvs F1 U1, reps w row rvs F1 U1 ∧ (∀ b ∈ F1, b ∈ F) ∧ (∀ b ∈ U1, b ∈ U) ∧
      match q with
      | [] => rvs = vs
      | c :: q => ∃ v, vs[c]? = some v ∧ ∀ j u, rvs[j]? = some u → ∃ ad, ∀ w2 : World, (∀ b ∈ F, w2.heap[b]? = w.heap[b]?) → (∀ b ∈ U, w2.heap[b]? = w.heap[b]?) → baseV w2 v q = some ad ∧ w2.cell? (ad.add j) = some u
  | [], cs, vs, F, U, row, h, hc => by
    simp only [cont, Option.some.injEq] at hc
    subst hc
    exact ⟨vs, F, U, h, fun _ hb => hb, fun _ hb => hb, rfl⟩
  | c :: q, cs, vs, F, U, row, h, hc => by
    simp only [cont] at hc
    split at hc
    · rename_i o e sz cells hcs
      obtain ⟨v, A, B, C, D, F1, U1, hv, hr, rfl, rfl, _⟩ := reps_get c h hcs
      have key : ∃ vs1 F2 U2, reps w cells vs1 F2 U2 ∧ Reads w v vs1 ∧ (∀ b ∈ F2, b ∈ F1) ∧ (∀ b ∈ U2, b ∈ U1) ∧ (∃ B, (B = blkOf v ∨ vs1 = [] ∧ B = []) ∧ ∀ b ∈ B, b ∈ F1 ∨ b ∈ U1) := by
        cases o
        · simp only [rep] at hr
          obtain ⟨A, n, c, vs1, U', B0, rfl, hn, hl, hrd, hr, rfl, hB0, rfl⟩ := hr
          exact ⟨vs1, [], U', hr, hrd, by simp, fun b hb => List.mem_append_right _ hb, B0, hB0, fun b hb => .inr (List.mem_append_left _ hb)⟩
        · simp only [rep] at hr
          obtain ⟨n, vs1, F', ho, hr, rfl⟩ := hr
          exact ⟨vs1, F', _, hr, own_Reads ho, fun b hb => List.mem_append_right _ hb, fun _ hb => hb, _, .inl rfl, fun b hb => .inl (List.mem_append_left _ hb)⟩
      obtain ⟨vs1, F2, U2, hr1, hrd, hF2, hU2, B0, hB0, hbk⟩ := key
      obtain ⟨rvs, F3, U3, hr3, hF3, hU3, hb⟩ := cont_rep q hr1 hc
      refine ⟨rvs, F3, U3, hr3, fun b hb => by simp [hF2 b (hF3 b hb)], fun b hb => by simp [hU2 b (hU3 b hb)], v, hv, fun j u hj => ?_⟩
      have hrd2 : ∀ w2 : World, (∀ b ∈ A ++ F1 ++ B, w2.heap[b]? = w.heap[b]?) → (∀ b ∈ C ++ U1 ++ D, w2.heap[b]? = w.heap[b]?) → Reads w2 v vs1 := fun w2 hA hC => hrd.moveB hB0 (fun b hb => by
        rcases hbk b hb with hb | hb
        · exact hA b (by simp [hb])
        · exact hC b (by simp [hb]))
      match q, hb with
      | [], hb =>
        subst hb
        obtain ⟨ad, n, c, rfl, hcell⟩ := hrd j u hj
        refine ⟨ad, fun w2 hA hC => ⟨rfl, ?_⟩⟩
        obtain ⟨ad', n', c', he, hcell'⟩ := hrd2 w2 hA hC j u hj
        injection he with he
        injection he with he
        subst he
        exact hcell'
      | c' :: q', hb =>
        obtain ⟨v', hv', hb⟩ := hb
        obtain ⟨ad, hk⟩ := hb j u hj
        refine ⟨ad, fun w2 hA hC => ?_⟩
        obtain ⟨hba, hcell⟩ := hk w2 (fun b hb => hA b (by simp [hF2 b hb])) (fun b hb => hC b (by simp [hU2 b hb]))
        obtain ⟨ad0, n, c, rfl, hc0⟩ := hrd2 w2 hA hC c' v' hv'
        refine ⟨?_, hcell⟩
        show baseFrom w2 ad0 (c' :: q') = some ad
        rw [baseFrom_cons hc0]
        exact hba
    · cases hc
theorem upd_rep {w : World} : ∀ (q : List Nat) {cs : List TV} {vs F U} {row : List TV} (c : Nat), reps w cs vs F U → ownP cs (c :: q) = true → cont cs (c :: q) = some row →
    ∃ v hv n e sz rvs A B C D F1 U1, vs[c]? = some hv ∧ w.ownsRow 0 e sz v n rvs ∧ reps w row rvs F1 U1 ∧ F = A ++ (blkOf v ++ F1) ++ B ∧ U = C ++ U1 ++ D ∧
      (∀ ad m k, v = .slice (some ad) m k → baseV w hv q = some ad) ∧
      ∀ w' row' rvs' F1' U1', w'.ownsRow 0 e sz v n rvs' → reps w' row' rvs' F1' U1' → (∀ b ∈ A ++ B, w'.heap[b]? = w.heap[b]?) → (∀ b ∈ C ++ D, w'.heap[b]? = w.heap[b]?) →
        ∀ f : List TV → List TV, f row = row' → reps w' (updC cs (c :: q) f) vs (A ++ (blkOf v ++ F1') ++ B) (C ++ U1' ++ D)
  | [], cs, vs, F, U, row, c, h, ho, hc => by
    simp only [cont] at hc
    split at hc
    · rename_i o e sz cells hcs
      simp only [Option.some.injEq] at hc
      subst hc
      simp only [ownP, hcs, Bool.and_true] at ho
      subst ho
      obtain ⟨v, A, B, C, D, F1, U1, hv, hr, rfl, rfl, hk⟩ := reps_get c h hcs
      simp only [rep] at hr
      obtain ⟨n, vs1, F', hown, hr, rfl⟩ := hr
      refine ⟨v, v, n, e, sz, vs1, A, B, C, D, F', U1, hv, hown, hr, rfl, rfl, fun ad m k hvv => by subst hvv; rfl, fun w' row' rvs' F1' U1' ho' hr' hA hC f hf => ?_⟩
      simp only [updC, hcs, hf]
      have hset : vs.set c v = vs := set_self hv
      have := hk w' (.sl true e sz row') v (blkOf v ++ F1') U1' (by simp only [rep]; exact ⟨n, rvs', F1', ho', hr', rfl⟩) hA hC
      rw [hset] at this
      exact this
    · cases hc
  | c' :: q, cs, vs, F, U, row, c, h, ho, hc => by
    rw [cont] at hc
    split at hc
    · rename_i o e sz cells hcs
      simp only [ownP, hcs, Bool.and_eq_true] at ho
      obtain ⟨rfl, ho⟩ := ho
      obtain ⟨v, A, B, C, D, F1, U1, hv, hr, rfl, rfl, hk⟩ := reps_get c h hcs
      simp only [rep] at hr
      obtain ⟨n, vs1, F', hown, hr, rfl⟩ := hr
      obtain ⟨v2, hv2, n2, e2, sz2, rvs, A2, B2, C2, D2, F2, U2, hvs1, hown2, hr2, rfl, rfl, hbase, hk2⟩ := upd_rep q c' hr (by simpa only [ownP] using ho) hc
      refine ⟨v2, v, n2, e2, sz2, rvs, A ++ (blkOf v ++ A2), B2 ++ B, C ++ C2, D2 ++ D, F2, U2, hv, hown2, hr2, by simp, by simp, ?_, ?_⟩
      · intro ad m k hvv
        obtain ⟨ad0, m0, k0, rfl, hc0⟩ := own_Reads hown c' hv2 hvs1
        show baseFrom w ad0 (c' :: q) = some ad
        rw [baseFrom_cons hc0]
        exact hbase ad m k hvv
      · intro w' row' rvs' F1' U1' ho' hr' hA hC f hf
        simp only [updC, hcs]
        have h3 := hk2 w' row' rvs' F1' U1' ho' hr' (fun b hb => hA b (by simp at hb ⊢; rcases hb with hb | hb <;> simp [hb])) (fun b hb => hC b (by simp at hb ⊢; rcases hb with hb | hb <;> simp [hb])) f hf
        have hown' : w'.ownsRow 0 e sz v n vs1 := by
          refine ⟨hown.1, ?_⟩
          rcases hown.2 with h0 | ⟨g, cap, cur, rfl, hg, hh, r⟩
          · exact .inl h0
          · exact .inr ⟨g, cap, cur, rfl, hg, (hA g (by simp [blkOf, Value.ownBlock])).trans hh, r⟩
        have hset : vs.set c v = vs := set_self hv
        have := hk w' (.sl true e sz (updC cells (c' :: q) f)) v (blkOf v ++ (A2 ++ (blkOf v2 ++ F1') ++ B2)) (C2 ++ U1' ++ D2) (by simp only [rep]; exact ⟨n, vs1, _, hown', h3, rfl⟩) (fun b hb => hA b (by simp at hb ⊢; rcases hb with hb | hb <;> simp [hb])) (fun b hb => hC b (by simp at hb ⊢; rcases hb with hb | hb <;> simp [hb]))
        rw [hset] at this
        simpa [updC] using this
    · cases hc
end Go.TI
namespace Go.TI
open Go Go.RowKit
def rootCell (w : World) (a : Act) (blk : Root → Nat) : Root → Nat → Option Value
  | .slot n, c => (a.eval (.tmp n)).cells[c]?
  | r, c => w.cell? ((⟨blk r, 0, none⟩ : Addr).add c)
def pv (w : World) (a : Act) (blk : Root → Nat) (r : Root) (q : List Nat) (j : Nat) : Option Value :=
  match q with
  | [] => rootCell w a blk r j
  | c :: q => (rootCell w a blk r c).bind fun v => (baseV w v q).bind fun ad => w.cell? (ad.add j)
def pa (w : World) (a : Act) (blk : Root → Nat) (r : Root) (q : List Nat) (j : Nat) : Option Addr :=
  match q with
  | [] => match r with
    | .slot _ => none
    | .hand => none
    | r => some ((⟨blk r, 0, none⟩ : Addr).add j)
  | c :: q => (rootCell w a blk r c).bind fun v => (baseV w v q).map fun ad => ad.add j
def St.place (E : St) (r : Root) (q : List Nat) (j : Nat) : Option TV :=
  (E.root r).bind fun cs => (cont cs q).bind fun row => row[j]?
def isSlO : Option TV → Bool
  | some t => t.isSl
  | none => false
def cellX (w : World) (a : Act) (E : St) (blk : Root → Nat) (t : TV) (v : Value) (F U : List Nat) : Prop :=
  match t with
  | .view r ver q j => F = [] ∧ U = [] ∧ ver ≤ E.ver r ∧ (E.ver r = ver → pv w a blk r q j = some v ∧ isSlO (E.place r q j) = true)
  | .ptr r ver q j => F = [] ∧ U = [] ∧ ver ≤ E.stamp r q ∧ (E.stamp r q = ver → (E.place r q j).isSome = true ∧ ∃ ad, pa w a blk r q j = some ad ∧ v = .pointer (some ad))
  | .junk => F = [] ∧ U = []
  | t => rep w t v F U
def cellsX (w : World) (a : Act) (E : St) (blk : Root → Nat) : List TV → List Value → List Nat → List Nat → Prop
  | [], vs, F, U => vs = [] ∧ F = [] ∧ U = []
  | t :: ts, vs, F, U => ∃ v vs' F1 F2 U1 U2, vs = v :: vs' ∧ F = F1 ++ F2 ∧ U = U1 ++ U2 ∧ cellX w a E blk t v F1 U1 ∧ cellsX w a E blk ts vs' F2 U2
mutual
def svX (w : World) (a : Act) (E : St) (blk : Root → Nat) : SV → Value → List Nat → List Nat → Prop
  | .one t, v, F, U => cellX w a E blk t v F U ∧ (t.isJunk = false → v.cells = #[v])
  | .agg cs, v, F, U => ∃ vs : List Value, v = .agg vs.toArray ∧ cellsX w a E blk cs vs F U
  | .tup ss, v, F, U => ∃ vs : List Value, v = .tuple vs.toArray ∧ tupX w a E blk ss vs F U
def tupX (w : World) (a : Act) (E : St) (blk : Root → Nat) : List SV → List Value → List Nat → List Nat → Prop
  | [], vs, F, U => vs = [] ∧ F = [] ∧ U = []
  | s :: ss, vs, F, U => ∃ v vs' F1 F2 U1 U2, vs = v :: vs' ∧ F = F1 ++ F2 ∧ U = U1 ++ U2 ∧ svX w a E blk s v F1 U1 ∧ tupX w a E blk ss vs' F2 U2
end
structure Steady (w w' : World) (a a' : Act) (E E' : St) (blk blk' : Root → Nat) (r : Root) : Prop where
  views : E.ver r < E'.ver r ∨ (E'.ver r = E.ver r ∧
    (∀ q j v, pv w a blk r q j = some v → isSlO (E.place r q j) = true → pv w' a' blk' r q j = some v ∧ isSlO (E'.place r q j) = true) ∧
    (∀ q j ad, q ≠ [] → pa w a blk r q j = some ad → (E.place r q j).isSome = true → pa w' a' blk' r q j = some ad ∧ (E'.place r q j).isSome = true))
  addrs : E.gen r < E'.gen r ∨ (E'.gen r = E.gen r ∧
    (∀ j ad, pa w a blk r [] j = some ad → (E.place r [] j).isSome = true → pa w' a' blk' r [] j = some ad ∧ (E'.place r [] j).isSome = true))
theorem stamp_cons {E : St} {r : Root} {q : List Nat} (h : q ≠ []) : E.stamp r q = E.ver r := by cases q <;> first | rfl | exact absurd rfl h
section
variable {w w' : World} {a a' : Act} {E E' : St} {blk blk' : Root → Nat}
theorem cellX_step (hs : ∀ r, Steady w w' a a' E E' blk blk' r) {t : TV} {v : Value} {F U : List Nat} (h : cellX w a E blk t v F U)
    (hF : ∀ b ∈ F, w'.heap[b]? = w.heap[b]?) (hU : ∀ b ∈ U, w'.heap[b]? = w.heap[b]?) : cellX w' a' E' blk' t v F U := by
  cases t with
  | view r ver q j =>
    obtain ⟨rfl, rfl, hv, hc⟩ := h
    rcases (hs r).views with hlt | ⟨he, h1, _⟩
    · exact ⟨rfl, rfl, by omega, fun e => by omega⟩
    · refine ⟨rfl, rfl, by omega, fun e => ?_⟩
      obtain ⟨h3, h4⟩ := hc (by omega)
      exact h1 q j v h3 h4
  | ptr r ver q j =>
    obtain ⟨rfl, rfl, hv, hc⟩ := h
    cases q with
    | nil =>
      simp only [St.stamp] at hv hc
      rcases (hs r).addrs with hlt | ⟨he, h2⟩
      · exact ⟨rfl, rfl, by simp only [St.stamp]; omega, fun e => by simp only [St.stamp] at e; omega⟩
      · refine ⟨rfl, rfl, by simp only [St.stamp]; omega, fun e => ?_⟩
        simp only [St.stamp] at e
        obtain ⟨h5, ad, h3, h4⟩ := hc (by omega)
        obtain ⟨h6, h7⟩ := h2 j ad h3 h5
        exact ⟨h7, ad, h6, h4⟩
    | cons c q =>
      rw [stamp_cons (by simp)] at hv hc
      rcases (hs r).views with hlt | ⟨he, _, h2⟩
      · exact ⟨rfl, rfl, by rw [stamp_cons (by simp)]; omega, fun e => by rw [stamp_cons (by simp)] at e; omega⟩
      · refine ⟨rfl, rfl, by rw [stamp_cons (by simp)]; omega, fun e => ?_⟩
        rw [stamp_cons (by simp)] at e
        obtain ⟨h5, ad, h3, h4⟩ := hc (by omega)
        obtain ⟨h6, h7⟩ := h2 (c :: q) j ad (by simp) h3 h5
        exact ⟨h7, ad, h6, h4⟩
  | junk => exact h
  | int k n => exact rep_move h hF hU
  | bool b => exact rep_move h hF hU
  | str s => exact rep_move h hF hU
  | fn _ _ _ => exact rep_move h hF hU
  | adr _ => exact rep_move h hF hU
  | hdr _ _ _ => exact rep_move h hF hU
  | sl o e sz cells => exact rep_move h hF hU
theorem cellsX_step (hs : ∀ r, Steady w w' a a' E E' blk blk' r) : ∀ {ts : List TV} {vs : List Value} {F U : List Nat}, cellsX w a E blk ts vs F U →
    (∀ b ∈ F, w'.heap[b]? = w.heap[b]?) → (∀ b ∈ U, w'.heap[b]? = w.heap[b]?) → cellsX w' a' E' blk' ts vs F U
  | [], _, _, _, h, _, _ => h
  | t :: ts, vs, F, U, h, hF, hU => by
    obtain ⟨v, vs', F1, F2, U1, U2, rfl, rfl, rfl, h1, h2⟩ := h
    exact ⟨v, vs', F1, F2, U1, U2, rfl, rfl, rfl, cellX_step hs h1 (fun b hb => hF b (List.mem_append_left _ hb)) (fun b hb => hU b (List.mem_append_left _ hb)),
      cellsX_step hs h2 (fun b hb => hF b (List.mem_append_right _ hb)) (fun b hb => hU b (List.mem_append_right _ hb))⟩
mutual
theorem svX_step (hs : ∀ r, Steady w w' a a' E E' blk blk' r) : ∀ {s : SV} {v : Value} {F U : List Nat}, svX w a E blk s v F U →
    (∀ b ∈ F, w'.heap[b]? = w.heap[b]?) → (∀ b ∈ U, w'.heap[b]? = w.heap[b]?) → svX w' a' E' blk' s v F U
  | .one t, v, F, U, h, hF, hU => by
    simp only [svX] at h ⊢
    exact ⟨cellX_step hs h.1 hF hU, h.2⟩
  | .agg cs, v, F, U, h, hF, hU => by
    simp only [svX] at h ⊢
    obtain ⟨vs, rfl, h⟩ := h
    exact ⟨vs, rfl, cellsX_step hs h hF hU⟩
  | .tup ss, v, F, U, h, hF, hU => by
    simp only [svX] at h ⊢
    obtain ⟨vs, rfl, h⟩ := h
    exact ⟨vs, rfl, tupX_step hs h hF hU⟩
theorem tupX_step (hs : ∀ r, Steady w w' a a' E E' blk blk' r) : ∀ {ss : List SV} {vs : List Value} {F U : List Nat}, tupX w a E blk ss vs F U →
    (∀ b ∈ F, w'.heap[b]? = w.heap[b]?) → (∀ b ∈ U, w'.heap[b]? = w.heap[b]?) → tupX w' a' E' blk' ss vs F U
  | [], _, _, _, h, _, _ => by simpa only [tupX] using h
  | s :: ss, vs, F, U, h, hF, hU => by
    simp only [tupX] at h ⊢
    obtain ⟨v, vs', F1, F2, U1, U2, rfl, rfl, rfl, h1, h2⟩ := h
    exact ⟨v, vs', F1, F2, U1, U2, rfl, rfl, rfl, svX_step hs h1 (fun b hb => hF b (List.mem_append_left _ hb)) (fun b hb => hU b (List.mem_append_left _ hb)),
      tupX_step hs h2 (fun b hb => hF b (List.mem_append_right _ hb)) (fun b hb => hU b (List.mem_append_right _ hb))⟩
end
end
def Root.mem : Root → Bool
  | .slot _ => false
  | .hand => false
  | _ => true
structure Base extends World where
  xb : Nat → Nat
  B : List Nat := []
  av : Nat → Value := fun _ => undef
structure Rel (w0 : Base) (FA UA : List Nat) (N : Nat) (w : World) (a : Act) (E : St) (blk : Root → Nat) (FS US : Root → List Nat) : Prop where
  slot : ∀ n, svX w a E blk (E.slots n) (a.eval (.tmp n)) (FS (.slot n)) (US (.slot n))
  box : ∀ r, r.mem = true → (E.boxes r = none ∧ FS r = [] ∧ US r = []) ∨ ∃ cs cur T F, E.boxes r = some cs ∧ w.heap[blk r]? = some (.cells cur T (0, 0)) ∧ reps w cs cur.toList F (US r) ∧ FS r = blk r :: F
  nohand : E.boxes .hand = none
  nodup : ∀ r, (FS r).Nodup
  dis : ∀ r s, r ≠ s → ∀ b ∈ FS r, b ∉ FS s
  disU : ∀ r s, ∀ b ∈ FS r, b ∉ US s
  inF : ∀ r, ∀ b ∈ FS r, (b ∈ FA ∨ w0.heap.size ≤ b) ∧ b < w.heap.size
  inU : ∀ r, ∀ b ∈ US r, (b ∈ UA ∨ b ∈ FA ∨ w0.heap.size ≤ b) ∧ b < w.heap.size
  disA : ∀ b ∈ FA, b ∉ UA
  os : w.os = w0.os
  tape : w.tape = w0.tape
  output : w.output = w0.output
  size : w0.heap.size ≤ w.heap.size
  keep : ∀ b, b < w0.heap.size → b ∉ FA → b ∉ w0.B → w.heap[b]? = w0.heap[b]?
  len : N ≤ a.tmps.size
  nodef : a.defers = []
  xblk : ∀ i, blk (.ext i) = w0.xb i
  ambB : w0.B = E.amb.B
  ambI : E.amb.I w
  frz : ∀ n, E.fz = some n → a.eval (.tmp n) = w0.av n
  ambF : ∀ b ∈ w0.B, b < w0.heap.size ∧ b ∉ FA ∧ b ∉ UA
end Go.TI
namespace Go.TI
open Go Go.RowKit
theorem eval_put_eq {a : Act} {d : Nat} {v : Value} (h : d < a.tmps.size) : (a.put (some d) v).eval (.tmp d) = v := by
  simp [Act.put, Act.eval, Array.getD, h]
theorem eval_put_ne {a : Act} {d n : Nat} {v : Value} (h : n ≠ d) : (a.put (some d) v).eval (.tmp n) = a.eval (.tmp n) := by
  simp only [Act.put, Act.eval, Array.getD_eq_getD_getElem?, Array.getElem?_setIfInBounds]
  rw [if_neg (Ne.symm h)]
theorem put_amb {E : St} {d : Option Nat} {s : SV} : (E.put d s).amb = E.amb := by cases d <;> rfl
theorem put_size {a : Act} {d : Option Nat} {v : Value} : (a.put d v).tmps.size = a.tmps.size := by cases d <;> simp [Act.put]
theorem put_defers {a : Act} {d : Option Nat} {v : Value} : (a.put d v).defers = a.defers := by cases d <;> simp [Act.put]
theorem upd_eq {α β : Type} [DecidableEq α] (f : α → β) (x : α) (b : β) : upd f x b x = b := by simp [upd]
theorem upd_ne {α β : Type} [DecidableEq α] {f : α → β} {x y : α} {b : β} (h : y ≠ x) : upd f x b y = f y := by simp [upd, h]
theorem rootCell_put {w : World} {a : Act} {blk : Root → Nat} {d : Nat} {v : Value} {r : Root} (h : r ≠ .slot d) (c : Nat) : rootCell w (a.put (some d) v) blk r c = rootCell w a blk r c := by
  cases r with
  | slot n =>
    have : n ≠ d := fun e => h (by rw [e])
    simp only [rootCell]
    rw [eval_put_ne this]
  | box n => rfl
  | ext n => rfl
  | hand => rfl
theorem pv_congr {w : World} {a a' : Act} {blk blk' : Root → Nat} {r : Root} (h : ∀ c, rootCell w a' blk' r c = rootCell w a blk r c) (q : List Nat) (j : Nat) : pv w a' blk' r q j = pv w a blk r q j := by
  cases q with
  | nil => exact h j
  | cons c q => simp only [pv, h]
theorem pa_congr {w : World} {a a' : Act} {blk : Root → Nat} {r : Root} (h : ∀ c, rootCell w a' blk r c = rootCell w a blk r c) (q : List Nat) (j : Nat) : pa w a' blk r q j = pa w a blk r q j := by
  cases q with
  | nil => rfl
  | cons c q => simp only [pa, h]
theorem put_root {E : St} {d : Nat} {s : SV} {r : Root} (h : r ≠ .slot d) : (E.put (some d) s).root r = E.root r := by
  cases r with
  | slot n =>
    have : n ≠ d := fun e => h (by rw [e])
    simp [St.root, St.put, upd, this]
  | box n => rfl
  | ext n => rfl
  | hand => rfl
theorem put_ver {E : St} {d : Nat} {s : SV} {r : Root} (h : r ≠ .slot d) : (E.put (some d) s).ver r = E.ver r := by simp [St.put, upd, h]
theorem put_ver_eq {E : St} {d : Nat} {s : SV} : (E.put (some d) s).ver (.slot d) = E.ver (.slot d) + 1 := by simp [St.put, upd]
theorem put_gen {E : St} {d : Option Nat} {s : SV} : (E.put d s).gen = E.gen := by cases d <;> rfl
theorem steady_put {w : World} {a : Act} {E : St} {blk : Root → Nat} {d : Nat} {s : SV} {v : Value} (r : Root) : Steady w w a (a.put (some d) v) E (E.put (some d) s) blk blk r := by
  by_cases h : r = .slot d
  · subst h
    refine ⟨.inl (by rw [put_ver_eq]; omega), .inr ⟨by rw [put_gen], fun j ad h1 _ => ?_⟩⟩
    simp [pa] at h1
  · have hpl : ∀ q j, (E.put (some d) s).place r q j = E.place r q j := fun q j => by simp only [St.place, put_root h]
    refine ⟨.inr ⟨put_ver h, fun q j u h1 h2 => ?_, fun q j ad _ h1 h2 => ?_⟩, .inr ⟨by rw [put_gen], fun j ad h1 h2 => ?_⟩⟩
    · rw [pv_congr (rootCell_put h), hpl]
      exact ⟨h1, h2⟩
    · rw [pa_congr (rootCell_put h), hpl]
      exact ⟨h1, h2⟩
    · rw [pa_congr (rootCell_put h), hpl]
      exact ⟨h1, h2⟩
structure Fits (w0 : Base) (FA UA : List Nat) (w : World) (FS US : Root → List Nat) (d : Root) (F U : List Nat) : Prop where
  nd : F.Nodup
  f1 : ∀ r, r ≠ d → ∀ b ∈ F, b ∉ FS r ∧ b ∉ US r
  fu : ∀ b ∈ F, b ∉ U
  u1 : ∀ r, r ≠ d → ∀ b ∈ U, b ∉ FS r
  inF : ∀ b ∈ F, (b ∈ FA ∨ w0.heap.size ≤ b) ∧ b < w.heap.size
  inU : ∀ b ∈ U, (b ∈ UA ∨ b ∈ FA ∨ w0.heap.size ≤ b) ∧ b < w.heap.size
theorem Fits.none {w0 : Base} {FA UA : List Nat} {w : World} {FS US : Root → List Nat} {d : Root} : Fits w0 FA UA w FS US d [] [] :=
  ⟨List.nodup_nil, by simp, by simp, by simp, by simp, by simp⟩
theorem Rel.put {w0 : Base} {FA UA : List Nat} {N : Nat} {w : World} {a : Act} {E : St} {blk : Root → Nat} {FS US : Root → List Nat} (h : Rel w0 FA UA N w a E blk FS US)
    {d : Nat} {s : SV} {v : Value} {F U : List Nat} (hd : d < N) (hs : svX w a E blk s v F U) (hf : Fits w0 FA UA w FS US (.slot d) F U) :
    Rel w0 FA UA N w (a.put (some d) v) (E.put (some d) s) blk (upd FS (.slot d) F) (upd US (.slot d) U) where
  slot := fun n => by
    by_cases hn : n = d
    · subst hn
      rw [eval_put_eq (Nat.lt_of_lt_of_le hd h.len), upd_eq, upd_eq]
      have : (E.put (some n) s).slots n = s := by simp [St.put, upd]
      rw [this]
      exact svX_step (fun r => steady_put r) hs (fun _ _ => rfl) (fun _ _ => rfl)
    · have hne : Root.slot n ≠ Root.slot d := fun e => hn (Root.slot.inj e)
      rw [eval_put_ne hn, upd_ne hne, upd_ne hne]
      have : (E.put (some d) s).slots n = E.slots n := by simp [St.put, upd, hn]
      rw [this]
      exact svX_step (fun r => steady_put r) (h.slot n) (fun _ _ => rfl) (fun _ _ => rfl)
  box := fun r hr => by
    have hne : r ≠ .slot d := by rintro rfl; cases hr
    rw [upd_ne hne, upd_ne hne]
    exact h.box r hr
  nohand := h.nohand
  nodup := fun r => by
    by_cases hr : r = .slot d
    · subst hr; rw [upd_eq]; exact hf.nd
    · rw [upd_ne hr]; exact h.nodup r
  dis := fun r s hrs b hb => by
    by_cases hr : r = .slot d
    · subst hr
      rw [upd_eq] at hb
      rw [upd_ne (Ne.symm hrs)]
      exact (hf.f1 s (Ne.symm hrs) b hb).1
    · rw [upd_ne hr] at hb
      by_cases hs : s = .slot d
      · subst hs
        rw [upd_eq]
        exact fun hb' => (hf.f1 r hr b hb').1 hb
      · rw [upd_ne hs]
        exact h.dis r s hrs b hb
  disU := fun r s b hb => by
    by_cases hr : r = .slot d
    · subst hr
      rw [upd_eq] at hb
      by_cases hs : s = .slot d
      · subst hs; rw [upd_eq]; exact hf.fu b hb
      · rw [upd_ne hs]; exact (hf.f1 s hs b hb).2
    · rw [upd_ne hr] at hb
      by_cases hs : s = .slot d
      · subst hs; rw [upd_eq]; exact fun hb' => hf.u1 r hr b hb' hb
      · rw [upd_ne hs]; exact h.disU r s b hb
  inF := fun r b hb => by
    by_cases hr : r = .slot d
    · subst hr; rw [upd_eq] at hb; exact hf.inF b hb
    · rw [upd_ne hr] at hb; exact h.inF r b hb
  inU := fun r b hb => by
    by_cases hr : r = .slot d
    · subst hr; rw [upd_eq] at hb; exact hf.inU b hb
    · rw [upd_ne hr] at hb; exact h.inU r b hb
  disA := h.disA
  os := h.os
  tape := h.tape
  output := h.output
  size := h.size
  keep := h.keep
  len := by rw [put_size]; exact h.len
  nodef := by rw [put_defers]; exact h.nodef
  xblk := h.xblk
  ambB := h.ambB
  ambI := h.ambI
  frz := fun n hn => by
    obtain ⟨h1, h2⟩ := fzPut_some hn
    rw [eval_put_ne h2]
    exact h.frz n h1
  ambF := h.ambF
end Go.TI
namespace Go.TI
open Go Go.RowKit
section
variable {w0 : Base} {FA UA : List Nat} {N : Nat} {w : World} {a : Act} {E : St} {blk : Root → Nat} {FS US : Root → List Nat}
theorem rep_scalar_F {w : World} {t : TV} {v : Value} {F U : List Nat} (h : rep w t v F U) (ht : ∀ e sz cells, t ≠ .sl true e sz cells) : F = [] := by
  cases t with
  | sl o e sz cells =>
    cases o
    · simp only [rep] at h
      obtain ⟨_, _, _, _, _, _, _, _, _, _, _, h, _⟩ := h
      exact h
    · exact absurd rfl (ht e sz cells)
  | int _ _ => simp only [rep] at h; exact h.2.1
  | bool _ => simp only [rep] at h; exact h.2.1
  | str _ => simp only [rep] at h; exact h.2.1
  | fn _ _ _ => simp only [rep] at h; exact h.2.1
  | adr _ => simp only [rep] at h; exact h.2.1
  | hdr _ _ _ => simp only [rep] at h; exact h.2.1
  | junk => simp only [rep] at h; exact h.2.1
  | view _ _ _ _ => simp only [rep] at h
  | ptr _ _ _ _ => simp only [rep] at h
theorem see_rel {r : Root} {q : List Nat} {c : Nat} {t : TV} {v : Value} {F U : List Nat} (h : cellX w a E blk t v F U)
    (hp : ∀ e sz cells, t = .sl true e sz cells → pv w a blk r q c = some v ∧ E.place r q c = some t) :
    ∃ U', cellX w a E blk (see E r q c t) v [] U' ∧ ∀ b ∈ U', b ∈ U := by
  cases t with
  | sl o e sz cells =>
    cases o
    · have hF := rep_scalar_F h (by simp)
      subst hF
      exact ⟨U, h, fun _ hb => hb⟩
    · obtain ⟨h1, h2⟩ := hp e sz cells rfl
      exact ⟨[], ⟨rfl, rfl, Nat.le_refl _, fun _ => ⟨h1, by rw [h2]; rfl⟩⟩, by simp⟩
  | int _ _ =>
    have hF := rep_scalar_F h (by simp)
    subst hF
    exact ⟨U, h, fun _ hb => hb⟩
  | bool _ =>
    have hF := rep_scalar_F h (by simp)
    subst hF
    exact ⟨U, h, fun _ hb => hb⟩
  | str _ =>
    have hF := rep_scalar_F h (by simp)
    subst hF
    exact ⟨U, h, fun _ hb => hb⟩
  | fn _ _ _ =>
    have hF := rep_scalar_F h (by simp)
    subst hF
    exact ⟨U, h, fun _ hb => hb⟩
  | adr _ =>
    have hF := rep_scalar_F h (by simp)
    subst hF
    exact ⟨U, h, fun _ hb => hb⟩
  | hdr _ _ _ =>
    have hF := rep_scalar_F h (by simp)
    subst hF
    exact ⟨U, h, fun _ hb => hb⟩
  | junk => exact ⟨[], ⟨rfl, rfl⟩, by simp⟩
  | view r ver q j =>
    obtain ⟨rfl, rfl, h⟩ := h
    exact ⟨[], ⟨rfl, rfl, h⟩, by simp⟩
  | ptr r ver q j =>
    obtain ⟨rfl, rfl, h⟩ := h
    exact ⟨[], ⟨rfl, rfl, h⟩, by simp⟩
theorem sees_rel {r : Root} {q : List Nat} : ∀ {ts : List TV} {vs : List Value} {F U : List Nat} (c : Nat), cellsX w a E blk ts vs F U →
    (∀ i t v, ts[i]? = some t → vs[i]? = some v → ∀ e sz cells, t = .sl true e sz cells → pv w a blk r q (c + i) = some v ∧ E.place r q (c + i) = some t) →
    ∃ U', cellsX w a E blk (sees E r q c ts) vs [] U' ∧ ∀ b ∈ U', b ∈ U
  | [], vs, F, U, c, h, _ => by
    obtain ⟨rfl, rfl, rfl⟩ := h
    exact ⟨[], ⟨rfl, rfl, rfl⟩, by simp⟩
  | t :: ts, vs, F, U, c, h, hp => by
    obtain ⟨v, vs', F1, F2, U1, U2, rfl, rfl, rfl, h1, h2⟩ := h
    obtain ⟨Ua, ha, hUa⟩ := see_rel (r := r) (q := q) (c := c) h1 (fun e sz cells he => by simpa using hp 0 t v rfl rfl e sz cells he)
    obtain ⟨Ub, hb, hUb⟩ := sees_rel (r := r) (q := q) (c + 1) h2 (fun i t' v' hi hv e sz cells he => by
      have := hp (i + 1) t' v' (by simpa using hi) (by simpa using hv) e sz cells he
      rwa [show c + (i + 1) = c + 1 + i from by omega] at this)
    refine ⟨Ua ++ Ub, ⟨v, vs', [], [], Ua, Ub, rfl, rfl, rfl, ha, hb⟩, fun b hb => ?_⟩
    rcases List.mem_append.1 hb with hb | hb
    · exact List.mem_append_left _ (hUa b hb)
    · exact List.mem_append_right _ (hUb b hb)
theorem cellsX_len {w : World} {a : Act} {E : St} {blk : Root → Nat} : ∀ {ts : List TV} {vs : List Value} {F U : List Nat}, cellsX w a E blk ts vs F U → vs.length = ts.length
  | [], _, _, _, h => by obtain ⟨rfl, _⟩ := h; rfl
  | t :: ts, vs, F, U, h => by
    obtain ⟨v, vs', F1, F2, U1, U2, rfl, _, _, _, h2⟩ := h
    simp [cellsX_len h2]
variable {P : Program}
theorem const_rep {t : TypeId} {v : Value} {x : TV} (h : constTV P t v = some x) : rep w x v [] [] ∧ v.cells = #[v] := by
  unfold constTV at h
  split at h
  · injection h with h; subst h; exact ⟨by simp [rep], rfl⟩
  · injection h with h; subst h; exact ⟨by simp [rep], rfl⟩
  · injection h with h; subst h; exact ⟨by simp [rep], rfl⟩
  · split at h
    · injection h with h
      subst h
      refine ⟨?_, rfl⟩
      simp only [rep]
      exact ⟨0, [], [], World.ownsRow_nil w 0 _ _, by simp [reps], by simp [blkOf, Value.ownBlock]⟩
    · cases h
  · cases h
theorem cellX_of_rep {t : TV} {v : Value} {F U : List Nat} (h : rep w t v F U) : cellX w a E blk t v F U := by
  cases t with
  | view _ _ _ _ => simp only [rep] at h
  | ptr _ _ _ _ => simp only [rep] at h
  | junk => simp only [rep] at h; exact h.2
  | int _ _ => exact h
  | bool _ => exact h
  | str _ => exact h
  | fn _ _ _ => exact h
  | adr _ => exact h
  | hdr _ _ _ => exact h
  | sl _ _ _ _ => exact h
theorem val_rel (h : Rel w0 FA UA N w a E blk FS US) {o : Operand} {t : TypeId} {s : SV} (hv : E.val P t o = some s) :
    ∃ U, svX w a E blk s (a.eval o) [] U ∧ ∀ b ∈ U, ∃ r, b ∈ US r := by
  unfold St.val at hv
  split at hv
  · rename_i n
    have hs := h.slot n
    split at hv
    · rename_i x hx
      injection hv with hv
      subst hv
      rw [hx] at hs
      simp only [svX] at hs
      obtain ⟨hc, hj⟩ := hs
      obtain ⟨U', h1, h2⟩ := see_rel (r := .slot n) (q := []) (c := 0) hc (fun e sz cells he => by
        subst he
        refine ⟨?_, ?_⟩
        · simp [pv, rootCell, hj rfl]
        · simp [St.place, St.root, hx, SV.cells, cont])
      refine ⟨U', ?_, fun b hb => ⟨_, h2 b hb⟩⟩
      simp only [svX]
      refine ⟨h1, fun hjk => ?_⟩
      cases x with
      | junk => simp [see, TV.isJunk] at hjk
      | _ => exact hj rfl
    · rename_i cs hx
      injection hv with hv
      subst hv
      rw [hx] at hs
      simp only [svX] at hs
      obtain ⟨vs, hvs, hc⟩ := hs
      obtain ⟨U', h1, h2⟩ := sees_rel (r := .slot n) (q := []) 0 hc (fun i t' v' hi hv' e sz cells he => by
        subst he
        refine ⟨?_, ?_⟩
        · simp [pv, rootCell, hvs, Value.cells, hv']
        · simp [St.place, St.root, hx, SV.cells, cont, hi])
      refine ⟨U', ?_, fun b hb => ⟨_, h2 b hb⟩⟩
      simp only [svX]
      exact ⟨vs, hvs, h1⟩
    · cases hv
  · rename_i v
    obtain ⟨x, hx, rfl⟩ := Option.map_eq_some_iff.1 hv
    obtain ⟨h1, h2⟩ := const_rep (w := w) hx
    refine ⟨[], ?_, by simp⟩
    simp only [svX]
    exact ⟨cellX_of_rep h1, fun _ => h2⟩
  · cases hv
theorem fits_copy (h : Rel w0 FA UA N w a E blk FS US) {U : List Nat} (hU : ∀ b ∈ U, ∃ r, b ∈ US r) (d : Root) : Fits w0 FA UA w FS US d [] U where
  nd := List.nodup_nil
  f1 := by simp
  fu := by simp
  u1 := fun r _ b hb hb' => by
    obtain ⟨s, hs⟩ := hU b hb
    exact h.disU r s b hb' hs
  inF := by simp
  inU := fun b hb => by
    obtain ⟨s, hs⟩ := hU b hb
    exact h.inU s b hs
end
end Go.TI
namespace Go.TI
set_option linter.unusedSimpArgs false
open Go Go.RowKit
def TV.toV : TV → Option Value
  | .int k n => some (.int k n)
  | .bool b => some (.bool b)
  | .str s => some (.string s)
  | _ => none
def intTV (op : BinOp) (k : IntKind) (a b : Int) : Option TV :=
  match op with
  | .add => some (.int k (k.wrap (a + b)))
  | .sub => some (.int k (k.wrap (a - b)))
  | .mul => some (.int k (k.wrap (a * b)))
  | .quo => if b = 0 then none else some (.int k (k.wrap (a.tdiv b)))
  | .rem => if b = 0 then none else some (.int k (a.tmod b))
  | .and => some (.int k (k.wrap (BitVec.ofInt k.bits a &&& BitVec.ofInt k.bits b).toNat))
  | .or => some (.int k (k.wrap (BitVec.ofInt k.bits a ||| BitVec.ofInt k.bits b).toNat))
  | .xor => some (.int k (k.wrap (BitVec.ofInt k.bits a ^^^ BitVec.ofInt k.bits b).toNat))
  | .eql => some (.bool (a == b))
  | .neq => some (.bool (a != b))
  | .lss => some (.bool (decide (a < b)))
  | .leq => some (.bool (decide (a ≤ b)))
  | .gtr => some (.bool (decide (a > b)))
  | .geq => some (.bool (decide (a ≥ b)))
  | _ => none
def binTV (op : BinOp) (x y : TV) : Option TV :=
  match x, y with
  | .int k a, .int k' b => match op with
    | .shl => if b < 0 then none else some (.int k (k.wrap (a * 2 ^ (min b.toNat k.bits))))
    | .shr => if b < 0 then none else some (.int k (a.fdiv (2 ^ (min b.toNat k.bits))))
    | op => if k = k' then intTV op k a b else none
  | .str a, .str b => match op with
    | .add => if ((a.size + b.size : Nat) : Int) > 9223372036854775807 then none else some (.str (a ++ b))
    | .eql => some (.bool (a.toList == b.toList))
    | .neq => some (.bool (!(a.toList == b.toList)))
    | .lss => some (.bool (Op.bytesLess a.toList b.toList))
    | _ => none
  | .bool a, .bool b => match op with
    | .eql => some (.bool (a == b))
    | .neq => some (.bool (!(a == b)))
    | _ => none
  | _, _ => none
theorem run_binTV {P : Program} {op : BinOp} {t : TypeId} {ox oy : Operand} {x y z : TV} (h : binTV op x y = some z) (hb : ∀ b, x = .bool b → P.underlying t = some .bool) {vx vy : Value} (hx : x.toV = some vx) (hy : y.toV = some vy) :
    ∃ vz, z.toV = some vz ∧ ∀ W : World, (do eqGuard op t ox oy vx vy; Go.binOp op t vx vy : Sem Value).run P W = .ok vz W := by
  cases x <;> simp only [TV.toV, Option.some.injEq, reduceCtorEq] at hx <;> subst hx <;> cases y <;> simp only [TV.toV, Option.some.injEq, reduceCtorEq] at hy <;> subst hy <;> simp only [binTV, reduceCtorEq] at h
  · rename_i k a k' b
    cases op <;> simp only [intTV, reduceCtorEq, ite_eq_left_iff, Option.ite_none_left_eq_some, Option.ite_none_right_eq_some, Option.some.injEq] at h
    all_goals first
      | (obtain ⟨rfl, h0, rfl⟩ := h; refine ⟨_, rfl, fun W => ?_⟩; simp [eqGuard, Go.binOp, Op.intArith, Op.intDiv, Op.intBits, Op.intCmp, h0]; done)
      | (obtain ⟨rfl, rfl⟩ := h; refine ⟨_, rfl, fun W => ?_⟩; simp [eqGuard, Go.binOp, Op.intArith, Op.intDiv, Op.intBits, Op.intCmp]; done)
      | (obtain ⟨h0, rfl⟩ := h; refine ⟨_, rfl, fun W => ?_⟩; simp [eqGuard, Go.binOp, Op.shift, h0]; done)
      | (simp at h; done)
      | skip
  · rename_i a b
    have ht := hb a rfl
    cases op <;> simp only [reduceCtorEq, Option.some.injEq] at h
    all_goals first
      | (subst h; refine ⟨_, rfl, fun W => ?_⟩; simp [eqGuard, Go.binOp, Op.equal, Op.maxDepth, run_equalIn_bool', ht]; done)
      | skip
  · rename_i a b
    cases op <;> simp only [reduceCtorEq, Option.ite_none_left_eq_some, Option.some.injEq] at h
    all_goals first
      | (obtain ⟨h0, rfl⟩ := h; refine ⟨_, rfl, fun W => ?_⟩; have h1 : ¬ (((a.size + b.size : Nat) : Int) > IntKind.i64.max) := h0; simp only [eqGuard, Go.binOp, Op.stringOp, if_neg h1]; rfl)
      | (subst h; refine ⟨_, rfl, fun W => ?_⟩; simp [eqGuard, Go.binOp, Op.stringOp]; done)
      | skip
def unTV (op : UnOp) (x : TV) : Option TV :=
  match op, x with
  | .neg, .int k n => some (.int k (k.wrap (0 - n)))
  | .not, .bool b => some (.bool (!b))
  | .xor, .int k n => some (.int k (k.wrap (BitVec.ofInt k.bits (if k.signed then -1 else k.max) ^^^ BitVec.ofInt k.bits n).toNat))
  | _, _ => none
theorem run_unTV {P : Program} {op : UnOp} {x z : TV} (h : unTV op x = some z) {vx : Value} (hx : x.toV = some vx) :
    ∃ vz, z.toV = some vz ∧ ∀ W : World, (Op.unary op vx).run P W = .ok vz W := by
  cases op <;> cases x <;> simp only [unTV, reduceCtorEq, Option.some.injEq] at h <;> subst h <;> simp only [TV.toV, Option.some.injEq] at hx <;> subst hx <;> exact ⟨_, rfl, fun W => by simp [Op.unary, Op.intArith, Op.intBits]⟩
end Go.TI
namespace Go.TI
open Go Go.RowKit
set_option linter.unusedSimpArgs false
section
variable {w0 : Base} {FA UA : List Nat} {N : Nat} {w : World} {a : Act} {E : St} {blk : Root → Nat} {FS US : Root → List Nat} {P : Program}
theorem cellsX_get : ∀ {ts : List TV} {vs : List Value} {F U : List Nat} (c : Nat) {t : TV}, cellsX w a E blk ts vs F U → ts[c]? = some t →
    ∃ v F1 U1, vs[c]? = some v ∧ cellX w a E blk t v F1 U1 ∧ (∀ b ∈ F1, b ∈ F) ∧ (∀ b ∈ U1, b ∈ U)
  | [], _, _, _, c, t, _, hc => by simp at hc
  | t0 :: ts, vs, F, U, 0, t, h, hc => by
    obtain ⟨v, vs', F1, F2, U1, U2, rfl, rfl, rfl, h1, _⟩ := h
    simp at hc
    subst hc
    exact ⟨v, F1, U1, rfl, h1, fun b hb => by simp [hb], fun b hb => by simp [hb]⟩
  | t0 :: ts, vs, F, U, c + 1, t, h, hc => by
    obtain ⟨v, vs', F1, F2, U1, U2, rfl, rfl, rfl, _, h2⟩ := h
    simp at hc
    obtain ⟨u, G, V, h3, h4, h5, h6⟩ := cellsX_get c h2 hc
    exact ⟨u, G, V, by simpa using h3, h4, fun b hb => by simp [h5 b hb], fun b hb => by simp [h6 b hb]⟩
theorem root_sl (h : Rel w0 FA UA N w a E blk FS US) {r : Root} {cs : List TV} {c : Nat} {o : Bool} {e sz : Nat} {cells : List TV} (hr : E.root r = some cs) (hc : cs[c]? = some (.sl o e sz cells)) :
    ∃ v F1 U1, rootCell w a blk r c = some v ∧ rep w (.sl o e sz cells) v F1 U1 ∧ (∀ b ∈ F1, b ∈ FS r) ∧ (∀ b ∈ U1, b ∈ US r) := by
  have hbox : ∀ r, r.mem = true → E.boxes r = some cs → ∃ v F1 U1, w.cell? ((⟨blk r, 0, none⟩ : Addr).add c) = some v ∧ rep w (.sl o e sz cells) v F1 U1 ∧ (∀ b ∈ F1, b ∈ FS r) ∧ (∀ b ∈ U1, b ∈ US r) := by
    intro r hm hr
    rcases h.box r hm with ⟨h1, _⟩ | ⟨cs', cur, T, F, h1, h2, h3, h4⟩
    · rw [h1] at hr; cases hr
    · rw [h1] at hr
      injection hr with hr
      subst hr
      obtain ⟨v, A, B, C, D, F1, U1, hv, hrp, hF, hU, _⟩ := reps_get c h3 hc
      refine ⟨v, F1, U1, ?_, hrp, fun b hb => by rw [h4, hF]; simp [hb], fun b hb => by rw [hU]; simp [hb]⟩
      have hv' : cur[c]? = some v := by simpa using hv
      unfold World.cell?
      rw [add_block]
      simp only [h2]
      unfold Addr.add
      split
      · rename_i h0; subst h0; simpa using hv'
      · simpa using hv'
  cases r with
  | slot n =>
    have hs := h.slot n
    simp only [St.root, Option.some.injEq] at hr
    cases hsl : E.slots n with
    | one t =>
      rw [hsl] at hs hr
      simp only [SV.cells] at hr
      subst hr
      simp only [svX] at hs
      obtain ⟨hx, hj⟩ := hs
      cases c with
      | succ c => simp at hc
      | zero =>
        simp at hc
        subst hc
        exact ⟨_, _, _, by simp [rootCell, hj rfl], hx, fun _ hb => hb, fun _ hb => hb⟩
    | agg ts =>
      rw [hsl] at hs hr
      simp only [SV.cells] at hr
      subst hr
      simp only [svX] at hs
      obtain ⟨vs, hvs, hx⟩ := hs
      obtain ⟨v, F1, U1, h1, h2, h3, h4⟩ := cellsX_get c hx hc
      exact ⟨v, F1, U1, by simp [rootCell, hvs, Value.cells, h1], h2, h3, h4⟩
    | tup ss =>
      rw [hsl] at hr
      simp only [SV.cells] at hr
      subst hr
      simp at hc
  | box n => exact hbox (.box n) rfl hr
  | ext n => exact hbox (.ext n) rfl hr
  | hand => simp only [St.root, h.nohand, reduceCtorEq] at hr
theorem place_path (h : Rel w0 FA UA N w a E blk FS US) {r : Root} {cs : List TV} {c : Nat} {q : List Nat} {row : List TV} (hr : E.root r = some cs) (hc : cont cs (c :: q) = some row) :
    ∃ rvs F1 U1, reps w row rvs F1 U1 ∧ (∀ b ∈ F1, b ∈ FS r) ∧ (∀ b ∈ U1, b ∈ US r) ∧
      ∃ hv, rootCell w a blk r c = some hv ∧ ∀ j u, rvs[j]? = some u → ∃ ad, ∀ w2 : World, (∀ b ∈ FS r, w2.heap[b]? = w.heap[b]?) → (∀ b ∈ US r, w2.heap[b]? = w.heap[b]?) → baseV w2 hv q = some ad ∧ w2.cell? (ad.add j) = some u := by
  simp only [cont] at hc
  split at hc
  · rename_i o e sz cells hcs
    obtain ⟨v, F1, U1, h1, h2, h3, h4⟩ := root_sl h hr hcs
    have h5 : reps w [.sl o e sz cells] [v] F1 U1 := by simp only [reps]; exact ⟨v, [], F1, [], U1, [], rfl, by simp, by simp, h2, rfl, rfl, rfl⟩
    have h6 : cont [.sl o e sz cells] (0 :: q) = some row := by simpa [cont] using hc
    obtain ⟨rvs, F2, U2, h7, h8, h9, hv, h10, h11⟩ := cont_rep (0 :: q) h5 h6
    simp at h10
    subst h10
    refine ⟨rvs, F2, U2, h7, fun b hb => h3 b (h8 b hb), fun b hb => h4 b (h9 b hb), v, h1, fun j u hj => ?_⟩
    obtain ⟨ad, hk⟩ := h11 j u hj
    exact ⟨ad, fun w2 hA hC => hk w2 (fun b hb => hA b (h3 b hb)) (fun b hb => hC b (h4 b hb))⟩
  · cases hc
theorem place_row (h : Rel w0 FA UA N w a E blk FS US) {r : Root} {q : List Nat} {j : Nat} {ad : Addr} {cs row : List TV} (hr : E.root r = some cs) (hc : cont cs q = some row) (hp : pa w a blk r q j = some ad) :
    ∃ rvs F1 U1, reps w row rvs F1 U1 ∧ (∀ b ∈ F1, b ∈ FS r) ∧ (∀ b ∈ U1, b ∈ US r) ∧
      ∀ i u, rvs[j + i]? = some u → pv w a blk r q (j + i) = some u ∧ ∀ w2 : World, (∀ b ∈ FS r, w2.heap[b]? = w.heap[b]?) → (∀ b ∈ US r, w2.heap[b]? = w.heap[b]?) → w2.cell? (ad.add i) = some u := by
  have hadd : ∀ (x : Addr) (m n : Nat), (x.add m).add n = x.add (m + n) := by
    intro x m n
    unfold Addr.add
    split <;> split <;> simp_all <;> omega
  cases q with
  | nil =>
    simp only [cont, Option.some.injEq] at hc
    subst hc
    have hbox : ∀ r : Root, r.mem = true → E.boxes r = some cs → ∃ rvs F1 U1, reps w cs rvs F1 U1 ∧ (∀ b ∈ F1, b ∈ FS r) ∧ (∀ b ∈ U1, b ∈ US r) ∧
        ∀ i u, rvs[j + i]? = some u → w.cell? ((⟨blk r, 0, none⟩ : Addr).add (j + i)) = some u ∧ ∀ w2 : World, (∀ b ∈ FS r, w2.heap[b]? = w.heap[b]?) → w2.cell? (((⟨blk r, 0, none⟩ : Addr).add j).add i) = some u := by
      intro r hm hr
      rcases h.box r hm with ⟨h1, _⟩ | ⟨cs', cur, T, F, h1, h2, h3, h4⟩
      · rw [h1] at hr; cases hr
      · rw [h1] at hr
        injection hr with hr
        subst hr
        refine ⟨cur.toList, F, US r, h3, fun b hb => by rw [h4]; exact List.mem_cons_of_mem _ hb, fun _ hb => hb, fun i u hu => ?_⟩
        have hu' : cur[j + i]? = some u := by simpa using hu
        have hone : ∀ w2 : World, w2.heap[blk r]? = w.heap[blk r]? → w2.cell? ((⟨blk r, 0, none⟩ : Addr).add (j + i)) = some u := by
          intro w2 hw2
          unfold World.cell?
          rw [add_block]
          simp only [hw2, h2]
          unfold Addr.add
          split
          · rename_i h0; rw [h0] at hu'; simpa using hu'
          · simpa using hu'
        refine ⟨hone w rfl, fun w2 hA => ?_⟩
        rw [hadd]
        exact hone w2 (hA _ (by rw [h4]; exact List.mem_cons_self))
    cases r with
    | slot n => simp [pa] at hp
    | box n =>
      simp only [pa, Option.some.injEq] at hp
      subst hp
      obtain ⟨rvs, F1, U1, h1, h2, h3, h4⟩ := hbox (.box n) rfl hr
      exact ⟨rvs, F1, U1, h1, h2, h3, fun i u hu => ⟨(h4 i u hu).1, fun w2 hA _ => (h4 i u hu).2 w2 hA⟩⟩
    | ext n =>
      simp only [pa, Option.some.injEq] at hp
      subst hp
      obtain ⟨rvs, F1, U1, h1, h2, h3, h4⟩ := hbox (.ext n) rfl hr
      exact ⟨rvs, F1, U1, h1, h2, h3, fun i u hu => ⟨(h4 i u hu).1, fun w2 hA _ => (h4 i u hu).2 w2 hA⟩⟩
    | hand => simp only [St.root, h.nohand, reduceCtorEq] at hr
  | cons c q =>
    obtain ⟨rvs, F1, U1, h1, h2, h3, hv, h4, h5⟩ := place_path h hr hc
    refine ⟨rvs, F1, U1, h1, h2, h3, fun i u hu => ?_⟩
    obtain ⟨ad', hk⟩ := h5 (j + i) u hu
    obtain ⟨h6, h7⟩ := hk w (fun _ _ => rfl) (fun _ _ => rfl)
    simp only [pa, h4, Option.bind_some, h6, Option.map_some, Option.some.injEq] at hp
    subst hp
    refine ⟨by simp only [pv, h4, Option.bind_some, h6]; exact h7, fun w2 hA hC => ?_⟩
    rw [hadd]
    exact (hk w2 hA hC).2
end
end Go.TI
namespace Go.TI
open Go Go.RowKit
set_option linter.unusedSimpArgs false
def St.ptr? (E : St) : Operand → Option (Root × List Nat × Nat)
  | .tmp n => match E.slots n with
    | .one (.ptr r v q j) => if E.stamp r q = v then some (r, q, j) else none
    | _ => none
  | _ => none
def St.ref (E : St) : Operand → Option (Root × List Nat × Nat)
  | .tmp n => match E.slots n with
    | .one (.sl ..) => some (.slot n, [], 0)
    | .one (.view r v q j) => if E.ver r = v then some (r, q, j) else none
    | _ => none
  | _ => none
section
variable (P : Program)
def aggT (t : TypeId) : Bool := match P.underlying t with
  | some (.struct _) | some (.array _ _) => true
  | _ => false
def St.cell1 (E : St) (t : TypeId) (o : Operand) : Option TV := match E.val P t o with
  | some (.one x) => some x
  | _ => none
def St.sliceCells (E : St) (o : Operand) : Option (Nat × List TV) := match E.ref o with
  | some (r, q, j) => match E.place r q j with
    | some (.sl _ _ sz cells) => some (sz, cells)
    | _ => none
  | none => none
def boolOk (t : TypeId) : TV → Bool
  | .bool _ => match P.underlying t with
    | some .bool => true
    | _ => false
  | _ => true
theorem boolOk_bool {t : TypeId} {b : Bool} (h : boolOk P t (.bool b) = true) : P.underlying t = some .bool := by
  simp only [boolOk] at h
  split at h
  · assumption
  · cases h
def builtinPure (E : St) : Builtin → List Operand → List TypeId → Option SV
  | .len, [x], [t] => match P.underlying t with
    | some .string => match E.cell1 P t x with
      | some (.str s) => some (.one (.int .i64 s.size))
      | _ => none
    | some (.slice _) => match E.sliceCells x with
      | some (sz, cells) => if 0 < sz then some (.one (.int .i64 (cells.length / sz : Nat))) else none
      | none => none
    | _ => none
  | .min, [x, y], [t, _] => match E.cell1 P t x, E.cell1 P t y with
    | some (.int k a), some (.int _ b) => some (.one (.int k (if b < a then b else a)))
    | _, _ => none
  | .max, [x, y], [t, _] => match E.cell1 P t x, E.cell1 P t y with
    | some (.int k a), some (.int _ b) => some (.one (.int k (if b > a then b else a)))
    | _, _ => none
  | _, _, _ => none
def bytesTV : List TV → Option (List Int)
  | [] => some []
  | .int .u8 n :: ts => (bytesTV ts).map (n :: ·)
  | _ => none
def pureOp (E : St) (o : Oper) : Option SV :=
  match o.op with
  | .move x => E.val P o.type x
  | .assign x => E.val P o.type x
  | .nilCheck x => match E.ptr? x with
    | some _ => E.val P o.type x
    | none => none
  | .pick c x y => match E.cell1 P 0 c with
    | some (.bool true) => E.val P o.type x
    | some (.bool false) => E.val P o.type y
    | _ => none
  | .binOp op t x y _ => match E.cell1 P t x, E.cell1 P t y with
    | some x, some y => if boolOk P t x = true then (binTV op x y).map .one else none
    | _, _ => none
  | .unOp op t x => match E.cell1 P t x with
    | some x => (unTV op x).map .one
    | none => none
  | .convert src dst x => match P.underlying src, P.underlying dst, E.cell1 P src x with
    | some (.int _), some (.int k), some (.int _ n) => some (.one (.int k (k.wrap n)))
    | some (.slice e), some .string, _ => match P.underlying e, E.ref x with
      | some (.int .u8), some (r, q, j) => match E.place r q j with
        | some (.sl _ _ sz cells) => if sz = 1 then (bytesTV cells).map fun l => .one (.str (strOfNums l)) else none
        | _ => none
      | _, _ => none
    | _, _, _ => none
  | .fieldAddr s x f => match P.underlying s, E.ptr? x with
    | some (.struct fs), some (r, q, j) => match fs[f]? with
      | some fd => if P.cellsOf fd.type = 0 then none else if (E.place r q (j + fd.offset)).isSome = true then some (.one (.ptr r (E.stamp r q) q (j + fd.offset))) else none
      | none => none
    | _, _ => none
  | .indexAddr t x i => match P.underlying t, E.cell1 P 0 i with
    | some (.slice e), some (.int _ n) => match E.ref x with
      | some (r, q, j) => match E.place r q j with
        | some (.sl _ _ sz cells) => if sz = P.cellsOf e ∧ 0 < sz ∧ 0 ≤ n ∧ (n.toNat + 1) * sz ≤ cells.length then some (.one (.ptr r (E.ver r) (q ++ [j]) (n.toNat * sz))) else none
        | _ => none
      | none => none
    | some (.array len e), some (.int _ n) => match E.ptr? x with
      | some (r, q, j) => if 0 < P.cellsOf e ∧ 0 ≤ n ∧ n < len ∧ (E.place r q (j + n.toNat * P.cellsOf e)).isSome = true then some (.one (.ptr r (E.stamp r q) q (j + n.toNat * P.cellsOf e))) else none
      | none => none
    | _, _ => none
  | .load t x => match E.ptr? x with
    | some (r, q, j) => match (E.root r).bind fun cs => cont cs q with
      | some row => if j + P.cellsOf t ≤ row.length then
          (if aggT P t then some (.agg (sees E r q j ((row.drop j).take (P.cellsOf t))))
          else if P.cellsOf t = 1 ∧ (P.underlying t).isSome = true then (row[j]?).map fun x => .one (see E r q j x) else none)
        else none
      | none => none
    | none => none
  | .index t x i => match P.underlying t, E.cell1 P t x, E.cell1 P 0 i with
    | some .string, some (.str s), some (.int _ n) => if 0 ≤ n ∧ n < s.size then some (.one (.int .u8 (bt s n))) else none
    | _, _, _ => none
  | .slice t x lo hi none => match P.underlying t, E.cell1 P t x with
    | some .string, some (.str s) => match (match lo with | some o => E.cell1 P 0 o | none => some (.int .i64 0)), (match hi with | some o => E.cell1 P 0 o | none => some (.int .i64 s.size)) with
      | some (.int _ l), some (.int _ h) => if 0 ≤ l ∧ l ≤ h ∧ h ≤ s.size then some (.one (.str (s.extract l.toNat h.toNat))) else none
      | _, _ => none
    | some (.slice e), _ => match E.ref x with
      | some (r, q, j) => match E.place r q j with
        | some (.sl false e' sz cells) => match (match lo with | some o => E.cell1 P 0 o | none => some (.int .i64 0)), (match hi with | some o => E.cell1 P 0 o | none => some (.int .i64 (cells.length / sz : Nat))) with
          | some (.int _ l), some (.int _ h) => if sz = P.cellsOf e ∧ 0 < sz ∧ 0 ≤ l ∧ l ≤ h ∧ h.toNat * sz ≤ cells.length then some (.one (.sl false e' sz ((cells.drop (l.toNat * sz)).take ((h.toNat - l.toNat) * sz)))) else none
          | _, _ => none
        | _ => none
      | none => none
    | _, _ => none
  | .call c => match c.callee with
    | .builtin b => builtinPure P E b c.args.toList c.argTypes.toList
    | _ => none
  | _ => none
where
  bt (s : ByteArray) (i : Int) : Int := if h : i.toNat < s.size then ((s[i.toNat]'h).toNat : Int) else 0
end
end Go.TI
namespace Go.TI
open Go Go.RowKit
set_option linter.unusedSimpArgs false
theorem add_add (x : Addr) (m n : Nat) : (x.add m).add n = x.add (m + n) := by
  unfold Addr.add
  split <;> split <;> simp_all <;> omega
theorem baseFrom_snoc {w : World} {j : Nat} {ad2 : Addr} {n c : Nat} : ∀ {q : List Nat} {ad ad1 : Addr}, baseFrom w ad q = some ad1 → w.cell? (ad1.add j) = some (.slice (some ad2) n c) → baseFrom w ad (q ++ [j]) = some ad2
  | [], ad, ad1, h1, h2 => by
    simp only [baseFrom, Option.some.injEq] at h1
    subst h1
    simp [baseFrom, h2]
  | c' :: q, ad, ad1, h1, h2 => by
    simp only [baseFrom, List.cons_append] at h1 ⊢
    split at h1
    · exact baseFrom_snoc h1 h2
    · cases h1
theorem pa_snoc {w : World} {a : Act} {blk : Root → Nat} {r : Root} {q : List Nat} {j i : Nat} {ad : Addr} {n c : Nat} (h : pv w a blk r q j = some (.slice (some ad) n c)) : pa w a blk r (q ++ [j]) i = some (ad.add i) := by
  cases q with
  | nil =>
    simp only [pv] at h
    simp [pa, h, baseV, baseFrom]
  | cons c' q =>
    simp only [pv] at h
    simp only [pa, List.cons_append]
    obtain ⟨v, h1, h⟩ := Option.bind_eq_some_iff.1 h
    obtain ⟨ad1, h2, h3⟩ := Option.bind_eq_some_iff.1 h
    rw [h1]
    simp only [Option.bind_some]
    cases v <;> simp only [baseV, reduceCtorEq] at h2
    rename_i A m k
    cases A <;> simp only [reduceCtorEq] at h2
    simp only [baseV]
    rw [baseFrom_snoc h2 h3]
    rfl
section
variable {w0 : Base} {FA UA : List Nat} {N : Nat} {w : World} {a : Act} {E : St} {blk : Root → Nat} {FS US : Root → List Nat} {P : Program}
theorem cell1_rel (h : Rel w0 FA UA N w a E blk FS US) {o : Operand} {t : TypeId} {x : TV} (hv : E.cell1 P t o = some x) :
    ∃ U, cellX w a E blk x (a.eval o) [] U ∧ (∀ b ∈ U, ∃ r, b ∈ US r) ∧ (x.isJunk = false → (a.eval o).cells = #[a.eval o]) := by
  unfold St.cell1 at hv
  split at hv
  · rename_i y hy
    injection hv with hv
    subst hv
    obtain ⟨U, h1, h2⟩ := val_rel h hy
    simp only [svX] at h1
    exact ⟨U, h1.1, h2, h1.2⟩
  · cases hv
theorem cell1_int (h : Rel w0 FA UA N w a E blk FS US) {o : Operand} {t : TypeId} {k : IntKind} {n : Int} (hv : E.cell1 P t o = some (.int k n)) : a.eval o = .int k n := by
  obtain ⟨U, h1, _⟩ := cell1_rel h hv
  simp only [cellX, rep] at h1
  exact h1.1
theorem cell1_str (h : Rel w0 FA UA N w a E blk FS US) {o : Operand} {t : TypeId} {s : ByteArray} (hv : E.cell1 P t o = some (.str s)) : a.eval o = .string s := by
  obtain ⟨U, h1, _⟩ := cell1_rel h hv
  simp only [cellX, rep] at h1
  exact h1.1
theorem cell1_bool (h : Rel w0 FA UA N w a E blk FS US) {o : Operand} {t : TypeId} {b : Bool} (hv : E.cell1 P t o = some (.bool b)) : a.eval o = .bool b := by
  obtain ⟨U, h1, _⟩ := cell1_rel h hv
  simp only [cellX, rep] at h1
  exact h1.1
theorem cell1_toV (h : Rel w0 FA UA N w a E blk FS US) {o : Operand} {t : TypeId} {x : TV} {z : Value} (hv : E.cell1 P t o = some x) (hx : x.toV = some z) : a.eval o = z := by
  cases x <;> simp only [TV.toV, Option.some.injEq, reduceCtorEq] at hx <;> subst hx
  · exact cell1_int h hv
  · exact cell1_bool h hv
  · exact cell1_str h hv
theorem ptr_rel (h : Rel w0 FA UA N w a E blk FS US) {o : Operand} {r : Root} {q : List Nat} {j : Nat} (hv : E.ptr? o = some (r, q, j)) : (E.place r q j).isSome = true ∧ ∃ ad, pa w a blk r q j = some ad ∧ a.eval o = .pointer (some ad) := by
  unfold St.ptr? at hv
  split at hv
  · rename_i n
    split at hv
    · rename_i r' v q' j' hs
      split at hv
      · rename_i he
        simp only [Option.some.injEq, Prod.mk.injEq] at hv
        obtain ⟨rfl, rfl, rfl⟩ := hv
        have := h.slot n
        rw [hs] at this
        simp only [svX, cellX] at this
        exact this.1.2.2.2 he
      · cases hv
    · cases hv
  · cases hv
theorem ref_rel (h : Rel w0 FA UA N w a E blk FS US) {o : Operand} {r : Root} {q : List Nat} {j : Nat} (hv : E.ref o = some (r, q, j)) : pv w a blk r q j = some (a.eval o) := by
  unfold St.ref at hv
  split at hv
  · rename_i n
    split at hv
    · rename_i e1 e2 e3 e4 hs
      simp only [Option.some.injEq, Prod.mk.injEq] at hv
      obtain ⟨rfl, rfl, rfl⟩ := hv
      have := h.slot n
      rw [hs] at this
      simp only [svX] at this
      simp [pv, rootCell, this.2 rfl]
    · rename_i r' v q' j' hs
      split at hv
      · rename_i he
        simp only [Option.some.injEq, Prod.mk.injEq] at hv
        obtain ⟨rfl, rfl, rfl⟩ := hv
        have := h.slot n
        rw [hs] at this
        simp only [svX, cellX] at this
        exact (this.1.2.2.2 he).1
      · cases hv
    · cases hv
  · cases hv
theorem place_sl (h : Rel w0 FA UA N w a E blk FS US) {r : Root} {q : List Nat} {j : Nat} {v : Value} {o : Bool} {e sz : Nat} {cells : List TV} (hp : E.place r q j = some (.sl o e sz cells)) (hv : pv w a blk r q j = some v) :
    ∃ F U, rep w (.sl o e sz cells) v F U ∧ (∀ b ∈ F, b ∈ FS r) ∧ (∀ b ∈ U, b ∈ US r) := by
  unfold St.place at hp
  obtain ⟨cs, hr, hp⟩ := Option.bind_eq_some_iff.1 hp
  obtain ⟨row, hc, hj⟩ := Option.bind_eq_some_iff.1 hp
  cases q with
  | nil =>
    simp only [cont, Option.some.injEq] at hc
    subst hc
    obtain ⟨v', F1, U1, h1, h2, h3, h4⟩ := root_sl h hr hj
    simp only [pv] at hv
    rw [h1] at hv
    injection hv with hv
    subst hv
    exact ⟨F1, U1, h2, h3, h4⟩
  | cons c q =>
    obtain ⟨rvs, F1, U1, h1, h2, h3, hv0, h4, h5⟩ := place_path h hr hc
    obtain ⟨v', A, B, C, D, F2, U2, h6, h7, rfl, rfl, _⟩ := reps_get j h1 hj
    obtain ⟨ad, hk⟩ := h5 j v' h6
    obtain ⟨h8, h9⟩ := hk w (fun _ _ => rfl) (fun _ _ => rfl)
    simp only [pv, h4, Option.bind_some, h8, h9, Option.some.injEq] at hv
    subst hv
    exact ⟨F2, U2, h7, fun b hb => h2 b (by simp [hb]), fun b hb => h3 b (by simp [hb])⟩
theorem rep_sl_form {o : Bool} {e sz : Nat} {cells : List TV} {v : Value} {F U : List Nat} (h : rep w (.sl o e sz cells) v F U) :
    ∃ A n c, v = .slice A n c ∧ n * sz = cells.length ∧ (0 < cells.length → ∃ ad, A = some ad) := by
  cases o
  · simp only [rep] at h
    obtain ⟨A, n, c, vs, U', B, rfl, hn, hl, hrd, hr, _, _, _⟩ := h
    have := reps_len hr
    refine ⟨A, n, c, rfl, by omega, fun hp => ?_⟩
    have h0 : 0 < vs.length := by omega
    obtain ⟨ad, m, k, he, _⟩ := hrd 0 _ (List.getElem?_eq_getElem h0)
    injection he with he
    exact ⟨ad, he⟩
  · simp only [rep] at h
    obtain ⟨n, vs, F', ho, hr, _⟩ := h
    have := reps_len hr
    have h2 := ho.1
    rcases ho.2 with ⟨rfl, rfl⟩ | ⟨g, cap, cur, rfl, _⟩
    · refine ⟨none, 0, 0, rfl, by omega, fun hp => ?_⟩
      simp at h2
      subst h2
      simp at this
      simp [← this] at hp
    · exact ⟨_, n, cap, rfl, by omega, fun _ => ⟨_, rfl⟩⟩
end
end Go.TI
namespace Go.TI
open Go Go.RowKit
set_option linter.unusedSimpArgs false
set_option linter.unusedVariables false
def readRoot (E : St) (o : Oper) : Option Root :=
  match o.op with
  | .load _ x => (E.ptr? x).map (·.1)
  | .convert _ _ x => (E.ref x).map (·.1)
  | _ => none
def YieldsAt (P : Program) (FS US : Root → List Nat) (w : World) (a : Act) (E : St) (o : Oper) (v : Value) : Prop :=
  ∀ w2 : World, (∀ r, readRoot E o = some r → (∀ b ∈ FS r, w2.heap[b]? = w.heap[b]?) ∧ ∀ b ∈ US r, w2.heap[b]? = w.heap[b]?) → (execOp a.eval o).run P w2 = .ok (.value v) w2
section
variable {w0 : Base} {FA UA : List Nat} {N : Nat} {w : World} {a : Act} {E : St} {blk : Root → Nat} {FS US : Root → List Nat} {P : Program}
def PureOk (P : Program) (w : World) (a : Act) (E : St) (blk : Root → Nat) (FS US : Root → List Nat) (o : Oper) (s : SV) : Prop :=
  ∃ v U, YieldsAt P FS US w a E o v ∧ svX w a E blk s v [] U ∧ ∀ b ∈ U, ∃ r, b ∈ US r
theorem one_scalar {w : World} {a : Act} {E : St} {blk : Root → Nat} {z : TV} {v : Value} (h : z.toV = some v) : svX w a E blk (.one z) v [] [] := by
  cases z <;> simp only [TV.toV, Option.some.injEq, reduceCtorEq] at h <;> subst h <;> simp [svX, cellX, rep, Value.cells]
theorem one_ptr {w : World} {a : Act} {E : St} {blk : Root → Nat} {r : Root} {q : List Nat} {j : Nat} {ad : Addr} (hq : (E.place r q j).isSome = true) (h : pa w a blk r q j = some ad) : svX w a E blk (.one (.ptr r (E.stamp r q) q j)) (.pointer (some ad)) [] [] := by
  simp only [svX, cellX]
  exact ⟨⟨by trivial, by trivial, Nat.le_refl _, fun _ => ⟨hq, ad, h, rfl⟩⟩, fun _ => rfl⟩
theorem pa_add {w : World} {a : Act} {blk : Root → Nat} {r : Root} {q : List Nat} {j k : Nat} {ad : Addr} (h : pa w a blk r q j = some ad) : pa w a blk r q (j + k) = some (ad.add k) := by
  cases q with
  | nil =>
    cases r <;> simp only [pa, reduceCtorEq, Option.some.injEq] at h ⊢ <;> subst h <;> rw [add_add]
  | cons c q =>
    simp only [pa] at h ⊢
    obtain ⟨v, h1, h⟩ := Option.bind_eq_some_iff.1 h
    obtain ⟨ad1, h2, rfl⟩ := Option.map_eq_some_iff.1 h
    rw [h1]
    simp only [Option.bind_some, h2, Option.map_some]
    rw [add_add]
theorem cont_snoc : ∀ {q : List Nat} {cs row : List TV} {j : Nat} {o : Bool} {e sz : Nat} {cells : List TV}, cont cs q = some row → row[j]? = some (.sl o e sz cells) → cont cs (q ++ [j]) = some cells
  | [], cs, row, j, o, e, sz, cells, h, hj => by
    simp only [cont, Option.some.injEq] at h
    subst h
    simp [cont, hj]
  | c :: q, cs, row, j, o, e, sz, cells, h, hj => by
    simp only [cont, List.cons_append] at h ⊢
    split at h
    · exact cont_snoc h hj
    · cases h
theorem place_snoc {E : St} {r : Root} {q : List Nat} {j i : Nat} {o : Bool} {e sz : Nat} {cells : List TV} (h : E.place r q j = some (.sl o e sz cells)) (hi : i < cells.length) : (E.place r (q ++ [j]) i).isSome = true := by
  unfold St.place at h
  obtain ⟨cs, h1, h⟩ := Option.bind_eq_some_iff.1 h
  obtain ⟨row, h2, h3⟩ := Option.bind_eq_some_iff.1 h
  simp [St.place, h1, cont_snoc h2 h3, hi]
theorem info_of_cells {t : TypeId} (h : P.cellsOf t ≠ 0) : ∃ i, P.info? t = some i ∧ i.size = P.cellsOf t := by
  unfold Program.cellsOf at h ⊢
  cases hi : P.info? t with
  | none => simp [hi] at h
  | some i => exact ⟨i, rfl, by simp⟩
theorem val_ok (h : Rel w0 FA UA N w a E blk FS US) {o : Oper} {x : Operand} {t : TypeId} {s : SV} (hv : E.val P t x = some s) (hrun : ∀ w2 : World, (execOp a.eval o).run P w2 = .ok (.value (a.eval x)) w2) : PureOk P w a E blk FS US o s := by
  obtain ⟨U, h1, h2⟩ := val_rel h hv
  exact ⟨a.eval x, U, fun w2 _ => hrun w2, h1, h2⟩
theorem scalar_ok {o : Oper} {z : TV} {v : Value} (hz : z.toV = some v) (hrun : ∀ w2 : World, (execOp a.eval o).run P w2 = .ok (.value v) w2) : PureOk P w a E blk FS US o (.one z) :=
  ⟨v, [], fun w2 _ => hrun w2, one_scalar hz, by simp⟩
theorem ok_move (h : Rel w0 FA UA N w a E blk FS US) {o : Oper} {x : Operand} (ho : o.op = .move x) {s : SV} (hp : pureOp P E o = some s) : PureOk P w a E blk FS US o s := by
  simp only [pureOp, ho] at hp
  exact val_ok h hp (fun w2 => by simp [execOp, ho])
theorem ok_assign (h : Rel w0 FA UA N w a E blk FS US) {o : Oper} {x : Operand} (ho : o.op = .assign x) {s : SV} (hp : pureOp P E o = some s) : PureOk P w a E blk FS US o s := by
  simp only [pureOp, ho] at hp
  exact val_ok h hp (fun w2 => by simp [execOp, ho])
theorem ok_nilCheck (h : Rel w0 FA UA N w a E blk FS US) {o : Oper} {x : Operand} (ho : o.op = .nilCheck x) {s : SV} (hp : pureOp P E o = some s) : PureOk P w a E blk FS US o s := by
  simp only [pureOp, ho] at hp
  split at hp
  · rename_i p hpt
    obtain ⟨r, q, j⟩ := p
    obtain ⟨_, ad, _, he⟩ := ptr_rel h hpt
    exact val_ok h hp (fun w2 => by simp [execOp, ho, he])
  · cases hp
theorem ok_pick (h : Rel w0 FA UA N w a E blk FS US) {o : Oper} {c x y : Operand} (ho : o.op = .pick c x y) {s : SV} (hp : pureOp P E o = some s) : PureOk P w a E blk FS US o s := by
  simp only [pureOp, ho] at hp
  split at hp
  · rename_i hc
    have := cell1_bool h hc
    exact val_ok h hp (fun w2 => by simp [execOp, ho, this, asBool])
  · rename_i hc
    have := cell1_bool h hc
    exact val_ok h hp (fun w2 => by simp [execOp, ho, this, asBool])
  · cases hp
theorem toV_of_bin {op : BinOp} {x y z : TV} (h : binTV op x y = some z) : ∃ vx vy, x.toV = some vx ∧ y.toV = some vy := by
  cases x <;> cases y <;> simp only [binTV, reduceCtorEq] at h <;> exact ⟨_, _, rfl, rfl⟩
theorem ok_binOp (h : Rel w0 FA UA N w a E blk FS US) {o : Oper} {op : BinOp} {t t' : TypeId} {x y : Operand} (ho : o.op = .binOp op t x y t') {s : SV} (hp : pureOp P E o = some s) : PureOk P w a E blk FS US o s := by
  simp only [pureOp, ho] at hp
  split at hp
  · rename_i u v hu hv
    split at hp
    · rename_i hb
      obtain ⟨z, hz, rfl⟩ := Option.map_eq_some_iff.1 hp
      obtain ⟨vx, vy, hx, hy⟩ := toV_of_bin hz
      have h1 := cell1_toV h hu hx
      have h2 := cell1_toV h hv hy
      obtain ⟨vz, hvz, hrun⟩ := run_binTV (P := P) (op := op) (t := t) (ox := x) (oy := y) hz (fun b hb' => by
        subst hb'
        exact boolOk_bool P hb) hx hy
      refine scalar_ok hvz (fun w2 => ?_)
      have := hrun w2
      simp only [execOp, ho, h1, h2]
      simp only [Sem.run_bind] at this ⊢
      rw [this]
      rfl
    · cases hp
  · cases hp
theorem ok_unOp (h : Rel w0 FA UA N w a E blk FS US) {o : Oper} {op : UnOp} {t : TypeId} {x : Operand} (ho : o.op = .unOp op t x) {s : SV} (hp : pureOp P E o = some s) : PureOk P w a E blk FS US o s := by
  simp only [pureOp, ho] at hp
  split at hp
  · rename_i u hu
    obtain ⟨z, hz, rfl⟩ := Option.map_eq_some_iff.1 hp
    have : ∃ vx, u.toV = some vx := by cases op <;> cases u <;> simp only [unTV, reduceCtorEq] at hz <;> exact ⟨_, rfl⟩
    obtain ⟨vx, hx⟩ := this
    have h1 := cell1_toV h hu hx
    obtain ⟨vz, hvz, hrun⟩ := run_unTV (P := P) hz hx
    refine scalar_ok hvz (fun w2 => ?_)
    simp [execOp, ho, h1, hrun w2]
  · cases hp
theorem bytes_reps {w : World} : ∀ {ts : List TV} {vs : List Value} {F U : List Nat} {l : List Int}, reps w ts vs F U → bytesTV ts = some l → vs = l.map (.int .u8)
  | [], vs, F, U, l, h, k => by
    simp only [bytesTV, Option.some.injEq] at k
    subst k
    simp only [reps] at h
    simp [h.1]
  | t :: ts, vs, F, U, l, h, k => by
    simp only [reps] at h
    obtain ⟨v, vs', F1, F2, U1, U2, rfl, _, _, h1, h2⟩ := h
    cases t with
    | int kd n =>
      cases kd <;> simp only [bytesTV, reduceCtorEq] at k
      obtain ⟨l', k1, rfl⟩ := Option.map_eq_some_iff.1 k
      simp only [rep] at h1
      rw [h1.1, bytes_reps h2 k1]
      rfl
    | _ => simp [bytesTV] at k
theorem ok_convert (h : Rel w0 FA UA N w a E blk FS US) {o : Oper} {src dst : TypeId} {x : Operand} (ho : o.op = .convert src dst x) {s : SV} (hp : pureOp P E o = some s) : PureOk P w a E blk FS US o s := by
  simp only [pureOp, ho] at hp
  split at hp
  · rename_i k0 k k1 n hs hd hu
    injection hp with hp
    subst hp
    have h1 := cell1_int h hu
    refine scalar_ok rfl (fun w2 => ?_)
    simp [execOp, ho, h1, convert, run_underlying hs, run_underlying hd, Conv.intToInt]
  · rename_i e hs hd
    split at hp
    · rename_i r q j he hr
      split at hp
      · rename_i o' e' sz cells hpl
        split at hp
        · rename_i hsz
          subst hsz
          obtain ⟨l, hl, rfl⟩ := Option.map_eq_some_iff.1 hp
          obtain ⟨F, U, h1, h2, h3⟩ := place_sl h hpl (ref_rel h hr)
          refine ⟨.string (strOfNums l), [], fun w2 hw2 => ?_, by simp [svX, cellX, rep, Value.cells], by simp⟩
          have hw := hw2 r (by simp [readRoot, ho, hr])
          have h4 := rep_move (w' := w2) h1 (fun b hb => hw.1 b (h2 b hb)) (fun b hb => hw.2 b (h3 b hb))
          have key : ∃ A n c vs F' U', a.eval x = .slice A n c ∧ vs.length = n ∧ Reads w2 (a.eval x) vs ∧ reps w2 cells vs F' U' := by
            cases o' with
            | true =>
              simp only [rep] at h4
              obtain ⟨n, vs, F', h5, h6, _⟩ := h4
              have hs' : ∃ A c, a.eval x = .slice A n c := by
                rcases h5.2 with ⟨h7, rfl⟩ | ⟨g, cap, cur, h7, _⟩
                · exact ⟨none, 0, h7⟩
                · exact ⟨_, _, h7⟩
              obtain ⟨A, c, h7⟩ := hs'
              exact ⟨A, n, c, vs, F', _, h7, by simpa using h5.1, own_Reads h5, h6⟩
            | false =>
              simp only [rep] at h4
              obtain ⟨A, n, c, vs, U', B, h5, _, h6, h7, h8, _⟩ := h4
              exact ⟨A, n, c, vs, [], U', h5, by simpa using h6, h7, h8⟩
          obtain ⟨A, n, c, vs, F', U', k1, k2, k3, k4⟩ := key
          have k5 := bytes_reps k4 hl
          simp only [execOp, ho, k1]
          have hrun : (convert src dst (.slice A n c)).run P w2 = .ok (.string (strOfNums l)) w2 := by
            rw [run_convert_bytes_string w2 src dst e A n c hs he hd]
            cases A with
            | none =>
              have hv : vs = [] := by
                cases vs with
                | nil => rfl
                | cons u us =>
                  obtain ⟨ad, n', c', hx, _⟩ := k3 0 u rfl
                  rw [k1] at hx
                  cases hx
              subst hv
              have : l = [] := by simpa using k5.symm
              subst this
              simp [Conv.bytesToString]
              rfl
            | some ad =>
              have hl2 : (loadCells ad n).run P w2 = .ok (l.map (Value.int .u8)).toArray w2 := by
                have := run_loadCells_list (P := P) w2 ad (l.map (Value.int .u8)) (fun i v hi => by
                  rw [← k5] at hi
                  obtain ⟨ad', n', c', hx, hy⟩ := k3 i v hi
                  rw [k1] at hx
                  injection hx with hx
                  injection hx with hx
                  subst hx
                  exact hy)
                rw [← k5] at this ⊢
                rw [k2] at this
                exact this
              rw [run_bytesToString w2 _ n c l hl2, foldl_push_bytes]
              simp [strOfNums, ByteArray.empty, ByteArray.emptyWithCapacity]
              rfl
          rw [Sem.run_bind, hrun]
          simp
        · cases hp
      · cases hp
    · cases hp
  · cases hp
theorem ok_fieldAddr (h : Rel w0 FA UA N w a E blk FS US) {o : Oper} {st : TypeId} {x : Operand} {f : Nat} (ho : o.op = .fieldAddr st x f) {s : SV} (hp : pureOp P E o = some s) : PureOk P w a E blk FS US o s := by
  simp only [pureOp, ho] at hp
  split at hp
  · rename_i fs r q j hs hpt
    split at hp
    · rename_i fd hf
      split at hp
      · cases hp
      · rename_i hne
        split at hp
        case isFalse => cases hp
        rename_i hq
        injection hp with hp
        subst hp
        obtain ⟨_, ad, h1, h2⟩ := ptr_rel h hpt
        obtain ⟨i, hi, _⟩ := info_of_cells hne
        refine ⟨_, [], fun w2 _ => ?_, one_ptr hq (pa_add h1), by simp⟩
        simp [execOp, ho, h2, Instr.fieldAt, run_underlying hs, hf, Instr.sureAddr, fieldPlace, run_sizeOf w2 hi, hne]
    · cases hp
  · cases hp
theorem ok_indexAddr (h : Rel w0 FA UA N w a E blk FS US) {o : Oper} {t : TypeId} {x i : Operand} (ho : o.op = .indexAddr t x i) {s : SV} (hp : pureOp P E o = some s) : PureOk P w a E blk FS US o s := by
  simp only [pureOp, ho] at hp
  split at hp
  · rename_i e k n ht hi
    split at hp
    · rename_i r q j href
      split at hp
      · rename_i o' e' sz cells hpl
        split at hp
        · rename_i hc
          obtain ⟨rfl, hs0, hn0, hn1⟩ := hc
          injection hp with hp
          subst hp
          have h1 := cell1_int h hi
          have h2 := ref_rel h href
          obtain ⟨F, U, h3, _, _⟩ := place_sl h hpl h2
          obtain ⟨A, m, c, hv, hm, hA⟩ := rep_sl_form h3
          have hpos : 0 < cells.length := Nat.lt_of_lt_of_le (Nat.mul_pos (by omega) hs0) hn1
          obtain ⟨ad, rfl⟩ := hA hpos
          obtain ⟨inf, hinf, _⟩ := info_of_cells (P := P) (t := e) (by omega)
          have hlt : n < (m : Int) := by
            have : (n.toNat + 1) ≤ m := Nat.le_of_mul_le_mul_right (by rw [hm]; exact hn1) hs0
            omega
          rw [hv] at h2
          have hst : E.stamp r (q ++ [j]) = E.ver r := stamp_cons (by simp)
          rw [← hst]
          refine ⟨_, [], fun w2 _ => ?_, one_ptr (place_snoc hpl (Nat.lt_of_lt_of_le (by rw [Nat.add_mul]; omega) hn1)) (pa_snoc h2), by simp⟩
          simp [execOp, ho, h1, hv, Instr.indexAt, run_underlying ht, asIntOf, hn0, hlt, run_sizeOf w2 hinf]
        · cases hp
      · cases hp
    · cases hp
  · rename_i len e k n ht hi
    split at hp
    · rename_i r q j hpt
      split at hp
      · rename_i hc
        injection hp with hp
        subst hp
        have h1 := cell1_int h hi
        obtain ⟨_, ad, h2, h3⟩ := ptr_rel h hpt
        obtain ⟨inf, hinf, _⟩ := info_of_cells (P := P) (t := e) (by omega)
        refine ⟨_, [], fun w2 _ => ?_, one_ptr hc.2.2.2 (pa_add h2), by simp⟩
        simp [execOp, ho, h1, h3, Instr.indexAt, run_underlying ht, asIntOf, Instr.sureAddr, hc, run_sizeOf w2 hinf]
      · cases hp
    · cases hp
  · cases hp
end
end Go.TI
namespace Go.TI
open Go Go.RowKit
set_option linter.unusedSimpArgs false
set_option linter.unusedVariables false
section
variable {w0 : Base} {FA UA : List Nat} {N : Nat} {w : World} {a : Act} {E : St} {blk : Root → Nat} {FS US : Root → List Nat} {P : Program}
theorem reps_drop {w : World} : ∀ (j : Nat) {ts : List TV} {vs F U}, reps w ts vs F U → ∃ F1 U1, reps w (ts.drop j) (vs.drop j) F1 U1 ∧ (∀ b ∈ F1, b ∈ F) ∧ (∀ b ∈ U1, b ∈ U)
  | 0, ts, vs, F, U, h => ⟨F, U, h, fun _ hb => hb, fun _ hb => hb⟩
  | j + 1, [], vs, F, U, h => by
    simp only [reps] at h
    obtain ⟨rfl, rfl, rfl⟩ := h
    exact ⟨[], [], by simp [reps], by simp, by simp⟩
  | j + 1, t :: ts, vs, F, U, h => by
    simp only [reps] at h
    obtain ⟨v, vs', F1, F2, U1, U2, rfl, rfl, rfl, h1, h2⟩ := h
    obtain ⟨F3, U3, h3, h4, h5⟩ := reps_drop j h2
    exact ⟨F3, U3, by simpa using h3, fun b hb => by simp [h4 b hb], fun b hb => by simp [h5 b hb]⟩
theorem reps_take {w : World} : ∀ (n : Nat) {ts : List TV} {vs F U}, reps w ts vs F U → ∃ F1 U1, reps w (ts.take n) (vs.take n) F1 U1 ∧ (∀ b ∈ F1, b ∈ F) ∧ (∀ b ∈ U1, b ∈ U)
  | 0, ts, vs, F, U, h => ⟨[], [], by simp [reps], by simp, by simp⟩
  | n + 1, [], vs, F, U, h => by
    simp only [reps] at h
    obtain ⟨rfl, rfl, rfl⟩ := h
    exact ⟨[], [], by simp [reps], by simp, by simp⟩
  | n + 1, t :: ts, vs, F, U, h => by
    simp only [reps] at h
    obtain ⟨v, vs', F1, F2, U1, U2, rfl, rfl, rfl, h1, h2⟩ := h
    obtain ⟨F3, U3, h3, h4, h5⟩ := reps_take n h2
    refine ⟨F1 ++ F3, U1 ++ U3, by simp only [List.take_succ_cons, reps]; exact ⟨v, _, F1, F3, U1, U3, rfl, rfl, rfl, h1, h3⟩, fun b hb => ?_, fun b hb => ?_⟩
    · rcases List.mem_append.1 hb with hb | hb
      · simp [hb]
      · simp [h4 b hb]
    · rcases List.mem_append.1 hb with hb | hb
      · simp [hb]
      · simp [h5 b hb]
theorem cellsX_of_reps {w : World} {a : Act} {E : St} {blk : Root → Nat} : ∀ {ts : List TV} {vs : List Value} {F U : List Nat}, reps w ts vs F U → cellsX w a E blk ts vs F U
  | [], vs, F, U, h => by simpa only [reps, cellsX] using h
  | t :: ts, vs, F, U, h => by
    simp only [reps] at h
    obtain ⟨v, vs', F1, F2, U1, U2, rfl, rfl, rfl, h1, h2⟩ := h
    exact ⟨v, vs', F1, F2, U1, U2, rfl, rfl, rfl, cellX_of_rep h1, cellsX_of_reps h2⟩
theorem rep_one {w : World} {t : TV} {v : Value} {F U : List Nat} (h : rep w t v F U) : v.oneCell' = true := by
  cases t with
  | int _ _ => simp only [rep] at h; obtain ⟨rfl, _⟩ := h; rfl
  | bool _ => simp only [rep] at h; obtain ⟨rfl, _⟩ := h; rfl
  | str _ => simp only [rep] at h; obtain ⟨rfl, _⟩ := h; rfl
  | fn _ _ _ => simp only [rep] at h; obtain ⟨rfl, _⟩ := h; rfl
  | adr _ => simp only [rep] at h; obtain ⟨rfl, _⟩ := h; rfl
  | hdr _ _ _ => simp only [rep] at h; obtain ⟨rfl, _⟩ := h; rfl
  | junk => simp only [rep] at h; exact h.1
  | view _ _ _ _ => simp only [rep] at h
  | ptr _ _ _ _ => simp only [rep] at h
  | sl o e sz cells =>
    obtain ⟨A, n, c, rfl, _⟩ := rep_sl_form h
    rfl
theorem reps_one {w : World} : ∀ {ts : List TV} {vs : List Value} {F U : List Nat}, reps w ts vs F U → ∀ v ∈ vs, v.oneCell' = true
  | [], vs, F, U, h, v, hv => by
    simp only [reps] at h
    rw [h.1] at hv
    cases hv
  | t :: ts, vs, F, U, h, v, hv => by
    simp only [reps] at h
    obtain ⟨u, vs', F1, F2, U1, U2, rfl, rfl, rfl, h1, h2⟩ := h
    rcases List.mem_cons.1 hv with rfl | hv
    · exact rep_one h1
    · exact reps_one h2 v hv
theorem cells_one {v : Value} (h : v.oneCell' = true) : v.cells = #[v] := by cases v <;> first | rfl | cases h
theorem run_isAgg {t : TypeId} {w2 : World} (h : P.underlying t ≠ none) : (isAgg t).run P w2 = .ok (aggT P t) w2 := by
  cases hu : P.underlying t with
  | none => exact absurd hu h
  | some d => cases d <;> simp [isAgg, run_underlying hu, aggT, hu]
theorem ok_load (h : Rel w0 FA UA N w a E blk FS US) {o : Oper} {t : TypeId} {x : Operand} (ho : o.op = .load t x) {s : SV} (hp : pureOp P E o = some s) : PureOk P w a E blk FS US o s := by
  simp only [pureOp, ho] at hp
  split at hp
  · rename_i r q j hpt
    split at hp
    · rename_i row hrow
      obtain ⟨cs, hr, hc⟩ := Option.bind_eq_some_iff.1 hrow
      obtain ⟨_, ad, h1, h2⟩ := ptr_rel h hpt
      obtain ⟨rvs, F1, U1, h3, h4, h5, h6⟩ := place_row h hr hc h1
      have hrd : readRoot E o = some r := by simp [readRoot, ho, hpt]
      have hlen := reps_len h3
      split at hp
      · rename_i hfit
        split at hp
        · rename_i hag
          injection hp with hp
          subst hp
          have hun : P.underlying t ≠ none := by intro e; simp [aggT, e] at hag
          obtain ⟨F2, U2, h7, h8, h9⟩ := reps_drop j h3
          obtain ⟨F3, U3, h10, h11, h12⟩ := reps_take (P.cellsOf t) h7
          have hcx := cellsX_of_reps (a := a) (E := E) (blk := blk) h10
          obtain ⟨U4, h13, h14⟩ := sees_rel (r := r) (q := q) j hcx (fun i t' v' hi hv e sz cells he => by
            have hi' : row[j + i]? = some t' := by
              rw [List.getElem?_take] at hi
              split at hi
              · rwa [List.getElem?_drop] at hi
              · cases hi
            have hv' : rvs[j + i]? = some v' := by
              rw [List.getElem?_take] at hv
              split at hv
              · rwa [List.getElem?_drop] at hv
              · cases hv
            refine ⟨(h6 i v' hv').1, ?_⟩
            simp only [St.place, hr, Option.bind_some, hc, hi'])
          refine ⟨.agg ((rvs.drop j).take (P.cellsOf t)).toArray, U4, fun w2 hw2 => ?_, ?_, fun b hb => ⟨r, h5 b (h9 b (h12 b (h14 b hb)))⟩⟩
          · obtain ⟨hA, hC⟩ := hw2 r hrd
            have hl : ((rvs.drop j).take (P.cellsOf t)).length = P.cellsOf t := by
              rw [List.length_take, List.length_drop]
              omega
            have hcells := run_loadCells_list (P := P) w2 ad ((rvs.drop j).take (P.cellsOf t)) (fun i u hu => by
              rw [List.getElem?_take] at hu
              split at hu
              · rw [List.getElem?_drop] at hu
                exact (h6 i u hu).2 w2 hA hC
              · cases hu)
            rw [hl] at hcells
            have hsz : (sizeOf t).run P w2 = .ok (P.cellsOf t) w2 := by
              cases hi : P.info? t with
              | some i => exact run_sizeOf w2 hi
              | none =>
                exfalso
                apply hun
                simp [Program.underlying, hi]
            simp [execOp, ho, h2, Instr.loadAt, Instr.sureAddr, loadVar, run_isAgg hun, hag, hsz, hcells]
          · simp only [svX]
            exact ⟨_, rfl, h13⟩
        · split at hp
          · rename_i hag hone
            obtain ⟨x', hx', rfl⟩ := Option.map_eq_some_iff.1 hp
            obtain ⟨hone, hsome⟩ := hone
            have hun : P.underlying t ≠ none := by
              intro e
              rw [e] at hsome
              cases hsome
            obtain ⟨v, A, B, C, D, F2, U2, hv, hrp, hF, hU, _⟩ := reps_get j h3 hx'
            obtain ⟨hpv, hcell⟩ := h6 0 v hv
            obtain ⟨U4, h13, h14⟩ := see_rel (r := r) (q := q) (c := j) (cellX_of_rep (a := a) (E := E) (blk := blk) hrp) (fun e sz cells he => ⟨hpv, by simp only [St.place, hr, Option.bind_some, hc, hx']⟩)
            refine ⟨v, U4, fun w2 hw2 => ?_, ?_, fun b hb => ⟨r, h5 b (by rw [hU]; simp [h14 b hb])⟩⟩
            · obtain ⟨hA, hC⟩ := hw2 r hrd
              have := hcell w2 hA hC
              have h0 : ad.add 0 = ad := by simp [Addr.add]
              rw [h0] at this
              have hagf : aggT P t = false := by simpa using hag
              simp [execOp, ho, h2, Instr.loadAt, Instr.sureAddr, loadVar, run_isAgg hun, hagf, this]
            · simp only [svX]
              exact ⟨h13, fun _ => cells_one (rep_one hrp)⟩
          · cases hp
      · cases hp
    · cases hp
  · cases hp
end
end Go.TI
namespace Go.TI
open Go Go.RowKit
set_option linter.unusedSimpArgs false
set_option linter.unusedVariables false
section
variable {w0 : Base} {FA UA : List Nat} {N : Nat} {w : World} {a : Act} {E : St} {blk : Root → Nat} {FS US : Root → List Nat} {P : Program}
theorem ok_index (h : Rel w0 FA UA N w a E blk FS US) {o : Oper} {t : TypeId} {x i : Operand} (ho : o.op = .index t x i) {s : SV} (hp : pureOp P E o = some s) : PureOk P w a E blk FS US o s := by
  simp only [pureOp, ho] at hp
  split at hp
  · rename_i str k n ht hx hi
    split at hp
    · rename_i hc
      injection hp with hp
      subst hp
      have h1 := cell1_str h hx
      have h2 := cell1_int h hi
      have hlt : n.toNat < str.size := by omega
      refine scalar_ok rfl (fun w2 => ?_)
      have hg : str[n.toNat]? = some str[n.toNat] := by simp [hlt]
      simp only [execOp, ho, h1, h2, Instr.index]
      simp [run_underlying ht, asIntOf, hc.1, hg, pureOp.bt, hlt]
    · cases hp
  · cases hp
theorem run_part {t e : TypeId} {sz : Nat} (ht : P.underlying t = some (.slice e)) (hsz : sz = P.cellsOf e) (h0 : 0 < sz) {A : Option Addr} {n c : Nat} {lo hi : Option Value} {l u : Nat} (hlu : l ≤ u) (hun : u ≤ n) (hnc : n ≤ c)
    (hlo : lo = none ∧ l = 0 ∨ ∃ k, lo = some (.int k l)) (hhi : hi = none ∧ u = n ∨ ∃ k, hi = some (.int k u)) (w2 : World) :
    (Instr.sliceAt t (.slice A n c) lo hi none).run P w2 = .ok (.slice (if c = l then A else A.map (·.add (l * sz))) (u - l) (c - l)) w2 := by
  have he : P.elem t = e := by simp [Program.elem, ht]
  have ht' : P.underlying t = some (.slice (P.elem t)) := by rw [he]; exact ht
  obtain ⟨i, hi1, hi2⟩ := info_of_cells (P := P) (t := e) (by omega)
  rw [run_sliceAt_slice w2 _ _ _ _ _ ht']
  rcases hlo with ⟨rfl, rfl⟩ | ⟨k, rfl⟩ <;> rcases hhi with ⟨rfl, rfl⟩ | ⟨k', rfl⟩
  · rw [run_slice_all w2 _ _ _ _ ht']
    simp [he, sizeOf, typeInfo, hi1, hi2, sliced, hsz]
  · rw [run_slice_h w2 _ _ _ _ ht' _ _ (by omega) (by omega)]
    simp [he, sizeOf, typeInfo, hi1, hi2, sliced, hsz]
  · rw [run_slice_l w2 _ _ _ _ ht' _ _ (by omega) (by omega)]
    simp [he, sizeOf, typeInfo, hi1, hi2, sliced, hsz]
  · rw [run_slice_lh w2 _ _ _ _ ht' _ _ _ _ (by omega) (by omega) (by omega)]
    simp [he, sizeOf, typeInfo, hi1, hi2, sliced, hsz]
theorem ok_part (h : Rel w0 FA UA N w a E blk FS US) {o : Oper} {t e : TypeId} {x : Operand} {lo hi : Option Operand} (ho : o.op = .slice t x lo hi none) (ht : P.underlying t = some (.slice e)) {r : Root} {q : List Nat} {j : Nat} {e' sz : Nat} {cells : List TV} (hr : E.ref x = some (r, q, j)) (hpl : E.place r q j = some (.sl false e' sz cells))
    {k1 k2 : IntKind} {l u : Int} (hl : lo = none ∧ l = 0 ∨ ∃ ol, lo = some ol ∧ a.eval ol = .int k1 l) (hu : hi = none ∧ u = (cells.length / sz : Nat) ∨ ∃ oh, hi = some oh ∧ a.eval oh = .int k2 u) (hc : sz = P.cellsOf e ∧ 0 < sz ∧ 0 ≤ l ∧ l ≤ u ∧ u.toNat * sz ≤ cells.length) :
    PureOk P w a E blk FS US o (.one (.sl false e' sz ((cells.drop (l.toNat * sz)).take ((u.toNat - l.toNat) * sz)))) := by
  obtain ⟨hsz, h0, hl0, hlu, hfit⟩ := hc
  obtain ⟨F, U, h1, h2, h3⟩ := place_sl h hpl (ref_rel h hr)
  simp only [rep] at h1
  obtain ⟨A, n, c, vs, U0, B, hv, hnc, hlen, hrd, hrs, rfl, hB, rfl⟩ := h1
  have hcl := reps_len hrs
  obtain ⟨l', rfl⟩ := Int.eq_ofNat_of_zero_le hl0
  obtain ⟨u', rfl⟩ := Int.eq_ofNat_of_zero_le (by omega : 0 ≤ u)
  simp only [Int.toNat_natCast] at hfit ⊢
  have hun : u' ≤ n := by
    rw [← hcl, hlen] at hfit
    exact Nat.le_of_mul_le_mul_right hfit h0
  have hlu' : l' ≤ u' := by omega
  have hdiv : cells.length / sz = n := by rw [← hcl, hlen]; exact Nat.mul_div_cancel _ h0
  have hrun : ∀ w2 : World, (execOp a.eval o).run P w2 = .ok (.value (.slice (if c = l' then A else A.map (·.add (l' * sz))) (u' - l') (c - l'))) w2 := by
    intro w2
    have := run_part (P := P) ht hsz h0 (A := A) (lo := lo.map a.eval) (hi := hi.map a.eval) hlu' hun hnc
      (by rcases hl with ⟨rfl, hl⟩ | ⟨ol, rfl, hol⟩
          · exact .inl ⟨rfl, by omega⟩
          · exact .inr ⟨k1, by simp [hol]⟩)
      (by rcases hu with ⟨rfl, hu⟩ | ⟨oh, rfl, hoh⟩
          · exact .inl ⟨rfl, by omega⟩
          · exact .inr ⟨k2, by simp [hoh]⟩) w2
    simp [execOp, ho, hv, this]
  obtain ⟨F1, U1, d1, d2, d3⟩ := reps_drop (l' * sz) hrs
  obtain ⟨F2, U2, g1, g2, g3⟩ := reps_take ((u' - l') * sz) d1
  have hF2 : F2 = [] := by
    cases F2 with
    | nil => rfl
    | cons b _ => exact absurd (d2 b (g2 b (by simp))) (by simp)
  subst hF2
  have hvl : ((vs.drop (l' * sz)).take ((u' - l') * sz)).length = (u' - l') * sz := by
    rw [List.length_take, List.length_drop, hlen, ← Nat.sub_mul]
    exact Nat.min_eq_left (Nat.mul_le_mul_right _ (by omega))
  have hrd' : Reads w (.slice (if c = l' then A else A.map (·.add (l' * sz))) (u' - l') (c - l')) ((vs.drop (l' * sz)).take ((u' - l') * sz)) := by
    intro i y hi
    have hilt := (List.getElem?_eq_some_iff.1 hi).1
    rw [hvl] at hilt
    rw [List.getElem?_take, if_pos hilt, List.getElem?_drop] at hi
    obtain ⟨ad, n2, c2, k3, k4⟩ := hrd (l' * sz + i) y hi
    rw [hv] at k3
    injection k3 with k3 k5 k6
    subst k3
    have hne : c ≠ l' := by
      intro e
      have : u' - l' = 0 := by omega
      rw [this] at hilt
      omega
    refine ⟨ad.add (l' * sz), u' - l', c - l', by rw [if_neg hne]; rfl, ?_⟩
    rw [← k4]
    congr 1
    unfold Addr.add
    split <;> split <;> simp_all <;> omega
  have key : ∃ B', (B' = blkOf (.slice (if c = l' then A else A.map (·.add (l' * sz))) (u' - l') (c - l')) ∨ (vs.drop (l' * sz)).take ((u' - l') * sz) = [] ∧ B' = []) ∧ ∀ b ∈ B', b ∈ US r := by
    by_cases hemp : (vs.drop (l' * sz)).take ((u' - l') * sz) = []
    · exact ⟨[], .inr ⟨hemp, rfl⟩, by simp⟩
    · have hvs : vs ≠ [] := by rintro rfl; simp at hemp
      rcases hB with hB | ⟨hB, _⟩
      · refine ⟨blkOf (a.eval x), .inl ?_, fun b hb => h3 b (List.mem_append_left _ (by rw [hB]; exact hb))⟩
        rw [hv]
        cases A with
        | none => split <;> rfl
        | some ad =>
          split
          · rfl
          · simp [blkOf, Value.ownBlock, add_block]
      · exact absurd hB hvs
  obtain ⟨B', hB1, hB2⟩ := key
  refine ⟨_, B' ++ U2, fun w2 _ => hrun w2, ?_, fun b hb => ⟨r, ?_⟩⟩
  · simp only [svX, cellX, rep]
    refine ⟨⟨_, _, _, _, U2, B', rfl, by omega, hvl, hrd', g1, trivial, hB1, rfl⟩, fun _ => rfl⟩
  · rcases List.mem_append.1 hb with hb | hb
    · exact hB2 b hb
    · exact h3 b (List.mem_append_right _ (d3 b (g3 b hb)))
theorem ok_slice (h : Rel w0 FA UA N w a E blk FS US) {o : Oper} {t : TypeId} {x : Operand} {lo hi : Option Operand} (ho : o.op = .slice t x lo hi none) {s : SV} (hp : pureOp P E o = some s) : PureOk P w a E blk FS US o s := by
  simp only [pureOp, ho] at hp
  split at hp
  · rename_i str ht hx
    have h1 := cell1_str h hx
    split at hp
    · rename_i k1 l k2 u hl hu
      split at hp
      · rename_i hc
        injection hp with hp
        subst hp
        obtain ⟨hc0, hc1, hc2⟩ := hc
        refine scalar_ok rfl (fun w2 => ?_)
        have hL : lo = none ∧ l = 0 ∨ ∃ ol, lo = some ol ∧ a.eval ol = .int k1 l := by
          cases lo with
          | none => simp at hl; exact .inl ⟨rfl, hl.2.symm⟩
          | some ol => exact .inr ⟨ol, rfl, cell1_int h hl⟩
        have hU : hi = none ∧ u = (str.size : Int) ∨ ∃ oh, hi = some oh ∧ a.eval oh = .int k2 u := by
          cases hi with
          | none => simp at hu; exact .inl ⟨rfl, hu.2.symm⟩
          | some oh => exact .inr ⟨oh, rfl, cell1_int h hu⟩
        obtain ⟨u', rfl⟩ := Int.eq_ofNat_of_zero_le (by omega : 0 ≤ u)
        obtain ⟨l', rfl⟩ := Int.eq_ofNat_of_zero_le hc0
        have e1 : l' ≤ u' := by omega
        have e2 : u' ≤ str.size := by omega
        rcases hL with ⟨rfl, hl0⟩ | ⟨ol, rfl, hol⟩ <;> rcases hU with ⟨rfl, hu0⟩ | ⟨oh, rfl, hoh⟩
        · have : l' = 0 := by omega
          have : u' = str.size := by omega
          subst_vars
          simp [execOp, ho, h1, Instr.sliceAt, run_underlying ht, Instr.slice, Instr.sliceBounds]
        · have : l' = 0 := by omega
          subst this
          simp [execOp, ho, h1, Instr.sliceAt, run_underlying ht, Instr.slice, Instr.sliceBounds, Instr.sliceBound, hoh, asIntOf, e2]
        · have : u' = str.size := by omega
          subst this
          simp [execOp, ho, h1, Instr.sliceAt, run_underlying ht, Instr.slice, Instr.sliceBounds, Instr.sliceBound, hol, asIntOf, e1]
        · simp [execOp, ho, h1, Instr.sliceAt, run_underlying ht, Instr.slice, Instr.sliceBounds, Instr.sliceBound, hol, hoh, asIntOf, e1, e2]
      · cases hp
    · cases hp
  · rename_i e ht
    split at hp
    · rename_i r q j hr
      split at hp
      · rename_i e' sz cells hpl
        split at hp
        · rename_i k1 l k2 u hl hu
          split at hp
          · rename_i hc
            injection hp with hp
            subst hp
            refine ok_part h ho ht hr hpl (k1 := k1) (k2 := k2) ?_ ?_ hc
            · cases lo with
              | none => simp at hl; exact .inl ⟨rfl, hl.2.symm⟩
              | some ol => exact .inr ⟨ol, rfl, cell1_int h hl⟩
            · cases hi with
              | none => simp at hu; exact .inl ⟨rfl, by simpa using hu.2.symm⟩
              | some oh => exact .inr ⟨oh, rfl, cell1_int h hu⟩
          · cases hp
        · cases hp
      · cases hp
    · cases hp
  · cases hp
theorem ok_builtin (h : Rel w0 FA UA N w a E blk FS US) {o : Oper} {c : Call} {b : Builtin} (ho : o.op = .call c) (hb : c.callee = .builtin b) {s : SV} (hp : builtinPure P E b c.args.toList c.argTypes.toList = some s) : PureOk P w a E blk FS US o s := by
  obtain ⟨callee, args, types⟩ := c
  simp only at hb
  subst hb
  simp only at hp
  unfold builtinPure at hp
  split at hp
  · rename_i x t hx0 ht0
    obtain rfl : args = #[x] := by cases args; simp_all
    obtain rfl : types = #[t] := by cases types; simp_all
    split at hp
    · rename_i ht
      split at hp
      · rename_i str hx
        injection hp with hp
        subst hp
        have h1 := cell1_str h hx
        refine scalar_ok rfl (fun w2 => ?_)
        simp [execOp, ho, resolve, invoke, builtin, Builtin.len_, h1, run_underlying ht, goInt]
      · cases hp
    · rename_i e ht
      split at hp
      · rename_i sz cells hs
        split at hp
        · rename_i hpos
          injection hp with hp
          subst hp
          unfold St.sliceCells at hs
          split at hs
          · rename_i r q j href
            split at hs
            · rename_i o' e' sz' cells' hpl
              simp only [Option.some.injEq, Prod.mk.injEq] at hs
              obtain ⟨rfl, rfl⟩ := hs
              have h2 := ref_rel h href
              obtain ⟨F, U, h3, _, _⟩ := place_sl h hpl h2
              obtain ⟨A, m, c, hv, hm, _⟩ := rep_sl_form h3
              refine scalar_ok (v := .int .i64 m) ?_ (fun w2 => ?_)
              · simp only [TV.toV]
                rw [← hm, Nat.mul_div_cancel _ hpos]
              · simp [execOp, ho, resolve, invoke, builtin, Builtin.len_, hv, run_underlying ht, goInt]
            · cases hs
          · cases hs
        · cases hp
      · cases hp
    · cases hp
  · rename_i x y t t' hx0 ht0
    obtain rfl : args = #[x, y] := by cases args; simp_all
    obtain rfl : types = #[t, t'] := by cases types; simp_all
    split at hp
    · rename_i k m k' n hx hy
      injection hp with hp
      subst hp
      have h1 := cell1_int h hx
      have h2 := cell1_int h hy
      refine scalar_ok rfl (fun w2 => ?_)
      simp [execOp, ho, resolve, invoke, builtin, Builtin.min_, h1, h2, Builtin.min2]
    · cases hp
  · rename_i x y t t' hx0 ht0
    obtain rfl : args = #[x, y] := by cases args; simp_all
    obtain rfl : types = #[t, t'] := by cases types; simp_all
    split at hp
    · rename_i k m k' n hx hy
      injection hp with hp
      subst hp
      have h1 := cell1_int h hx
      have h2 := cell1_int h hy
      refine scalar_ok rfl (fun w2 => ?_)
      simp [execOp, ho, resolve, invoke, builtin, Builtin.max_, h1, h2, Builtin.max2]
    · cases hp
  · cases hp
theorem pure_sound (h : Rel w0 FA UA N w a E blk FS US) {o : Oper} {s : SV} (hp : pureOp P E o = some s) : PureOk P w a E blk FS US o s := by
  have hp0 := hp
  unfold pureOp at hp
  split at hp
  · rename_i ho; exact ok_move h ho hp0
  · rename_i ho; exact ok_assign h ho hp0
  · rename_i ho; exact ok_nilCheck h ho hp0
  · rename_i ho; exact ok_pick h ho hp0
  · rename_i ho; exact ok_binOp h ho hp0
  · rename_i ho; exact ok_unOp h ho hp0
  · rename_i ho; exact ok_convert h ho hp0
  · rename_i ho; exact ok_fieldAddr h ho hp0
  · rename_i ho; exact ok_indexAddr h ho hp0
  · rename_i ho; exact ok_load h ho hp0
  · rename_i ho; exact ok_index h ho hp0
  · rename_i ho; exact ok_slice h ho hp0
  · rename_i ho
    split at hp
    · rename_i hb; exact ok_builtin h ho hb hp
    · cases hp
  · cases hp
end
end Go.TI
namespace Go.TI
open Go Go.RowKit
set_option linter.unusedSimpArgs false
set_option linter.unusedVariables false
def St.ownAt (E : St) (r : Root) (q : List Nat) : Bool := match E.root r with
  | some cs => ownP cs q
  | none => false
def takeAt (E : St) (r : Root) (ver : Nat) (q : List Nat) (j : Nat) : Option (TV × St) :=
  if E.ver r = ver then
    match E.place r q j with
    | some (.sl true e sz cells) => if E.ownAt r q = true then
        match E.root r with
        | some cs => some (.sl true e sz cells, (E.setRoot r (updC cs q fun row => row.set j .junk)).bump r)
        | none => none
      else none
    | some (.sl false e sz cells) => some (.sl false e sz cells, E)
    | _ => none
  else none
def takeCell (E : St) : TV → Option (TV × St)
  | .view r v q j => takeAt E r v q j
  | .ptr .. => none
  | .junk => none
  | .sl o e sz cells => some (.sl o e sz cells, E)
  | t => some (t, E)
def rst (E E1 : St) : TV → TV → TV
  | .view r _ [] j, .view r' v' [] j' => if r' = r ∧ E.ver r = v' ∧ j' ≠ j then .view r' (E1.ver r') [] j' else .view r' v' [] j'
  | _, u => u
def takeN (n : Nat) (E : St) (l : List TV) : Option (List TV × St) := match n, l with
  | 0, _ => some ([], E)
  | _ + 1, [] => some ([], E)
  | n + 1, t :: ts => match takeCell E t with
    | some (x, E1) => match takeN n E1 (ts.map (rst E E1 t)) with
      | some (xs, E2) => some (x :: xs, E2)
      | none => none
    | none => none
def takeCells (E : St) (l : List TV) : Option (List TV × St) := takeN l.length E l
theorem takeCells_nil {E : St} : takeCells E [] = some ([], E) := rfl
theorem takeCells_cons {E : St} {t : TV} {ts : List TV} : takeCells E (t :: ts) = match takeCell E t with
    | some (x, E1) => match takeCells E1 (ts.map (rst E E1 t)) with
      | some (xs, E2) => some (x :: xs, E2)
      | none => none
    | none => none := by
  simp only [takeCells, List.length_cons, takeN, List.length_map]
theorem bump_ver_eq {E : St} {r : Root} : (E.bump r).ver r = E.ver r + 1 := by simp [St.bump, upd]
theorem bump_ver_ne {E : St} {r s : Root} (h : s ≠ r) : (E.bump r).ver s = E.ver s := by simp [St.bump, upd, h]
theorem setRoot_ver {E : St} {r : Root} {cs : List TV} : (E.setRoot r cs).ver = E.ver := by cases r <;> rfl
theorem bump_root {E : St} {r s : Root} : (E.bump r).root s = E.root s := by cases s <;> rfl
theorem bump_slots {E : St} {r : Root} : (E.bump r).slots = E.slots := rfl
theorem bump_boxes {E : St} {r : Root} : (E.bump r).boxes = E.boxes := rfl
theorem setRoot_root_ne {E : St} {r s : Root} {cs : List TV} (h : s ≠ r) : (E.setRoot r cs).root s = E.root s := by
  cases r <;> cases s <;> simp only [St.setRoot, St.root, upd] <;> first
    | rfl
    | (rw [if_neg (fun e => h (by rw [e]))])
    | (rw [if_neg h])
    | (simp_all; done)
section
variable {w0 : Base} {FA UA : List Nat} {N : Nat} {w : World} {a : Act} {E : St} {blk : Root → Nat} {FS US : Root → List Nat} {P : Program}
theorem setRoot_gen {E : St} {r : Root} {cs : List TV} : (E.setRoot r cs).gen = E.gen := by cases r <;> rfl
theorem bump_gen {E : St} {r : Root} : (E.bump r).gen = E.gen := rfl
theorem setRoot_mem {E : St} {r : Root} {cs : List TV} (h : r.mem = true) : (E.setRoot r cs).root r = some cs := by cases r <;> simp_all [St.setRoot, St.root, upd, Root.mem]
theorem steady_out {r : Root} {cs : List TV} (hlen : r.mem = true → ∀ cs0, E.root r = some cs0 → cs.length = cs0.length) (s : Root) : Steady w w a a E ((E.setRoot r cs).bump r) blk blk s := by
  by_cases h : s = r
  · subst h
    refine ⟨.inl (by rw [bump_ver_eq, setRoot_ver]; omega), .inr ⟨by rw [bump_gen, setRoot_gen], fun j ad h1 h2 => ⟨h1, ?_⟩⟩⟩
    by_cases hm : s.mem = true
    · unfold St.place at h2
      cases hr : E.root s with
      | none => simp [hr] at h2
      | some cs0 =>
        have := hlen hm cs0 hr
        simp only [hr, Option.bind_some, cont] at h2
        simp only [St.place, bump_root, setRoot_mem hm, Option.bind_some, cont]
        have h3 : j < cs0.length := by
          obtain ⟨x, hx⟩ := Option.isSome_iff_exists.1 h2
          exact (List.getElem?_eq_some_iff.1 hx).1
        rw [List.getElem?_eq_getElem (by omega)]
        rfl
    · cases s <;> first | (simp [pa] at h1; done) | exact absurd rfl hm
  · have hpl : ∀ q j, ((E.setRoot r cs).bump r).place s q j = E.place s q j := fun q j => by simp only [St.place, bump_root, setRoot_root_ne h]
    refine ⟨.inr ⟨by rw [bump_ver_ne h, setRoot_ver], fun q j v h1 h2 => ⟨h1, by rw [hpl]; exact h2⟩, fun q j ad _ h1 h2 => ⟨h1, by rw [hpl]; exact h2⟩⟩, .inr ⟨by rw [bump_gen, setRoot_gen], fun j ad h1 h2 => ⟨h1, by rw [hpl]; exact h2⟩⟩⟩
theorem cellsX_upd : ∀ {ts : List TV} {vs : List Value} {F U : List Nat} (c : Nat) {t : TV}, cellsX w a E blk ts vs F U → ts[c]? = some t →
    ∃ v A B C D F1 U1, vs[c]? = some v ∧ cellX w a E blk t v F1 U1 ∧ F = A ++ F1 ++ B ∧ U = C ++ U1 ++ D ∧
      ∀ t' F1' U1', cellX w a E blk t' v F1' U1' → cellsX w a E blk (ts.set c t') vs (A ++ F1' ++ B) (C ++ U1' ++ D)
  | [], _, _, _, c, t, _, hc => by simp at hc
  | t0 :: ts, vs, F, U, 0, t, h, hc => by
    obtain ⟨v, vs', F1, F2, U1, U2, rfl, rfl, rfl, h1, h2⟩ := h
    simp at hc
    subst hc
    refine ⟨v, [], F2, [], U2, F1, U1, rfl, h1, rfl, rfl, fun t' F1' U1' hx => ?_⟩
    exact ⟨v, vs', F1', F2, U1', U2, rfl, rfl, rfl, hx, h2⟩
  | t0 :: ts, vs, F, U, c + 1, t, h, hc => by
    obtain ⟨v, vs', F1, F2, U1, U2, rfl, rfl, rfl, h1, h2⟩ := h
    simp at hc
    obtain ⟨u, A, B, C, D, G, V, h3, h4, rfl, rfl, hk⟩ := cellsX_upd c h2 hc
    refine ⟨u, F1 ++ A, B, U1 ++ C, D, G, V, by simpa using h3, h4, by simp, by simp, fun t' F1' U1' hx => ?_⟩
    exact ⟨v, vs', F1, A ++ F1' ++ B, U1, C ++ U1' ++ D, rfl, by simp, by simp, h1, hk t' F1' U1' hx⟩
theorem Rel.out (h : Rel w0 FA UA N w a E blk FS US) {r : Root} (hr : r ≠ .hand) {cs' : List TV} {A B F1 U' U1 : List Nat} (hF : FS r = A ++ F1 ++ B)
    (hlen : r.mem = true → ∀ cs0, E.root r = some cs0 → cs'.length = cs0.length) (hU' : ∀ b ∈ U', b ∈ US r) (hU1 : ∀ b ∈ U1, b ∈ US r)
    (hslot : ∀ n, r = .slot n → svX w a E blk ((E.slots n).withCells cs') (a.eval (.tmp n)) (A ++ B) U')
    (hmem : r.mem = true → ∃ cur T F, w.heap[blk r]? = some (.cells cur T (0, 0)) ∧ reps w cs' cur.toList F U' ∧ A ++ B = blk r :: F) :
    Rel w0 FA UA N w a ((E.setRoot r cs').bump r) blk (upd (upd FS r (A ++ B)) .hand (FS .hand ++ F1)) (upd (upd US r U') .hand (US .hand ++ U1)) := by
  have hst : ∀ s, Steady w w a a E ((E.setRoot r cs').bump r) blk blk s := fun s => steady_out hlen s
  have hnd := h.nodup r
  rw [hF] at hnd
  have hsub : ∀ b, b ∈ A ++ B → b ∈ FS r := fun b hb => by rw [hF]; simp at hb ⊢; rcases hb with hb | hb <;> simp [hb]
  have hsub1 : ∀ b, b ∈ F1 → b ∈ FS r := fun b hb => by rw [hF]; simp [hb]
  have hdisj : ∀ b, b ∈ A ++ B → b ∉ F1 := by
    intro b hb hb1
    rw [List.append_assoc, List.nodup_append] at hnd
    obtain ⟨hA, hFB, hAF⟩ := hnd
    rw [List.nodup_append] at hFB
    rcases List.mem_append.1 hb with hb | hb
    · exact hAF b hb b (List.mem_append_left _ hb1) rfl
    · exact hFB.2.2 b hb1 b hb rfl
  have hndAB : (A ++ B).Nodup := by
    rw [List.append_assoc] at hnd
    exact hnd.sublist (List.Sublist.append_left (List.sublist_append_right _ _) _)
  have hnd1 : F1.Nodup := hnd.sublist ((List.sublist_append_right A F1).trans (List.sublist_append_left _ _))
  have hrh : ∀ s, s ≠ Root.hand → upd (upd FS r (A ++ B)) .hand (FS .hand ++ F1) s = upd FS r (A ++ B) s := fun s hs => upd_ne hs
  have hrhU : ∀ s, s ≠ Root.hand → upd (upd US r U') .hand (US .hand ++ U1) s = upd US r U' s := fun s hs => upd_ne hs
  -- where a block of the new account comes from
  have hin : ∀ s, ∀ b ∈ upd (upd FS r (A ++ B)) .hand (FS .hand ++ F1) s, (s = .hand ∧ (b ∈ FS .hand ∨ b ∈ F1)) ∨ (s = r ∧ b ∈ A ++ B) ∨ (s ≠ .hand ∧ s ≠ r ∧ b ∈ FS s) := by
    intro s b hb
    by_cases hs : s = .hand
    · subst hs
      rw [upd_eq] at hb
      exact .inl ⟨rfl, List.mem_append.1 hb⟩
    · rw [upd_ne hs] at hb
      by_cases hs2 : s = r
      · subst hs2
        rw [upd_eq] at hb
        exact .inr (.inl ⟨rfl, hb⟩)
      · rw [upd_ne hs2] at hb
        exact .inr (.inr ⟨hs, hs2, hb⟩)
  have hinU : ∀ s, ∀ b ∈ upd (upd US r U') .hand (US .hand ++ U1) s, ∃ s', b ∈ US s' := by
    intro s b hb
    by_cases hs : s = .hand
    · subst hs
      rw [upd_eq] at hb
      rcases List.mem_append.1 hb with hb | hb
      · exact ⟨_, hb⟩
      · exact ⟨_, hU1 b hb⟩
    · rw [upd_ne hs] at hb
      by_cases hs2 : s = r
      · subst hs2
        rw [upd_eq] at hb
        exact ⟨_, hU' b hb⟩
      · rw [upd_ne hs2] at hb
        exact ⟨_, hb⟩
  have hinS : ∀ s, ∀ b ∈ upd (upd FS r (A ++ B)) .hand (FS .hand ++ F1) s, ∃ s', b ∈ FS s' := by
    intro s b hb
    rcases hin s b hb with ⟨_, hb | hb⟩ | ⟨_, hb⟩ | ⟨_, _, hb⟩
    · exact ⟨_, hb⟩
    · exact ⟨_, hsub1 b hb⟩
    · exact ⟨_, hsub b hb⟩
    · exact ⟨_, hb⟩
  constructor
  · intro n
    have hne : Root.slot n ≠ Root.hand := by simp
    rw [hrh _ hne, hrhU _ hne, bump_slots]
    by_cases hrn : r = .slot n
    · subst hrn
      rw [upd_eq, upd_eq]
      have : (E.setRoot (.slot n) cs').slots n = (E.slots n).withCells cs' := by simp [St.setRoot, upd]
      rw [this]
      exact svX_step hst (hslot n rfl) (fun _ _ => rfl) (fun _ _ => rfl)
    · rw [upd_ne (fun e => hrn e.symm), upd_ne (fun e => hrn e.symm)]
      have : (E.setRoot r cs').slots n = E.slots n := by
        cases r with
        | slot m =>
          have : n ≠ m := fun e => hrn (by rw [e])
          simp [St.setRoot, upd, this]
        | _ => rfl
      rw [this]
      exact svX_step hst (h.slot n) (fun _ _ => rfl) (fun _ _ => rfl)
  · intro s hs
    have hne : s ≠ Root.hand := by rintro rfl; cases hs
    rw [hrh _ hne, hrhU _ hne, bump_boxes]
    by_cases hrs : s = r
    · subst hrs
      rw [upd_eq, upd_eq]
      obtain ⟨cur, T, F, h1, h2, h3⟩ := hmem hs
      refine .inr ⟨cs', cur, T, F, ?_, h1, h2, h3⟩
      cases s <;> simp_all [St.setRoot, upd, Root.mem]
    · rw [upd_ne hrs, upd_ne hrs]
      have : (E.setRoot r cs').boxes s = E.boxes s := by cases r <;> simp [St.setRoot, upd, hrs]
      rw [this]
      exact h.box s hs
  · rw [bump_boxes]
    have : (E.setRoot r cs').boxes .hand = E.boxes .hand := by cases r <;> simp [St.setRoot, upd] <;> simp at hr
    rw [this]
    exact h.nohand
  · intro s
    by_cases hs : s = .hand
    · subst hs
      rw [upd_eq, List.nodup_append]
      exact ⟨h.nodup _, hnd1, fun x hx y hy e => by subst e; exact h.dis r .hand hr x (hsub1 x hy) hx⟩
    · rw [upd_ne hs]
      by_cases hs2 : s = r
      · subst hs2; rw [upd_eq]; exact hndAB
      · rw [upd_ne hs2]; exact h.nodup s
  · intro s s' hss b hb hb'
    rcases hin s b hb with ⟨rfl, hx | hx⟩ | ⟨rfl, hx⟩ | ⟨h1, h2, hx⟩ <;> rcases hin s' b hb' with ⟨rfl, hy | hy⟩ | ⟨rfl, hy⟩ | ⟨h3, h4, hy⟩
    · exact hss rfl
    · exact hss rfl
    · exact h.dis .hand s' (Ne.symm hr) b hx (hsub b hy)
    · exact h.dis .hand s' (Ne.symm h3) b hx hy
    · exact hss rfl
    · exact hss rfl
    · exact hdisj b hy hx
    · exact h.dis r s' (Ne.symm h4) b (hsub1 b hx) hy
    · exact h.dis s .hand hr b (hsub b hx) hy
    · exact hdisj b hx hy
    · exact hss rfl
    · exact h.dis s s' (Ne.symm h4) b (hsub b hx) hy
    · exact h.dis s .hand h1 b hx hy
    · exact h.dis s r h2 b hx (hsub1 b hy)
    · exact h.dis s s' h2 b hx (hsub b hy)
    · exact h.dis s s' hss b hx hy
  · intro s s' b hb hb'
    obtain ⟨t, ht⟩ := hinS s b hb
    obtain ⟨t', ht'⟩ := hinU s' b hb'
    exact h.disU t t' b ht ht'
  · intro s b hb
    obtain ⟨t, ht⟩ := hinS s b hb
    exact h.inF t b ht
  · intro s b hb
    obtain ⟨t, ht⟩ := hinU s b hb
    exact h.inU t b ht
  · exact h.disA
  · exact h.os
  · exact h.tape
  · exact h.output
  · exact h.size
  · exact h.keep
  · exact h.len
  · exact h.nodef
  · exact h.xblk
  · rw [bump_amb, setRoot_amb]; exact h.ambB
  · rw [bump_amb, setRoot_amb]; exact h.ambI
  · intro n hn; rw [bump_fz, setRoot_fz] at hn; exact h.frz n hn
  · exact h.ambF
end
end Go.TI
namespace Go.TI
open Go Go.RowKit
set_option linter.unusedSimpArgs false
set_option linter.unusedVariables false
section
variable {w0 : Base} {FA UA : List Nat} {N : Nat} {w : World} {a : Act} {E : St} {blk : Root → Nat} {FS US : Root → List Nat} {P : Program}
theorem Rel.handU (h : Rel w0 FA UA N w a E blk FS US) {U1 : List Nat} (hU : ∀ b ∈ U1, ∃ r, b ∈ US r) :
    Rel w0 FA UA N w a E blk FS (upd US .hand (US .hand ++ U1)) := by
  have hin : ∀ s, ∀ b ∈ upd US .hand (US .hand ++ U1) s, ∃ s', b ∈ US s' := by
    intro s b hb
    by_cases hs : s = .hand
    · subst hs
      rw [upd_eq] at hb
      rcases List.mem_append.1 hb with hb | hb
      · exact ⟨_, hb⟩
      · exact hU b hb
    · rw [upd_ne hs] at hb
      exact ⟨_, hb⟩
  constructor
  · intro n
    rw [upd_ne (by simp)]
    exact h.slot n
  · intro r hr
    have hne : r ≠ Root.hand := by rintro rfl; cases hr
    rw [upd_ne hne]
    exact h.box r hr
  · exact h.nohand
  · exact h.nodup
  · exact h.dis
  · intro r s b hb hb'
    obtain ⟨t, ht⟩ := hin s b hb'
    exact h.disU r t b hb ht
  · exact h.inF
  · intro r b hb
    obtain ⟨t, ht⟩ := hin r b hb
    exact h.inU t b ht
  · exact h.disA
  · exact h.os
  · exact h.tape
  · exact h.output
  · exact h.size
  · exact h.keep
  · exact h.len
  · exact h.nodef
  · exact h.xblk
  · exact h.ambB
  · exact h.ambI
  · exact h.frz
  · exact h.ambF
theorem take_own (h : Rel w0 FA UA N w a E blk FS US) {r : Root} {q : List Nat} {j : Nat} {e sz : Nat} {cells cs : List TV} {v : Value} (hp : E.place r q j = some (.sl true e sz cells)) (ho : ownP cs q = true) (hr : E.root r = some cs) (hv : pv w a blk r q j = some v) :
    ∃ F1 U1 G V, rep w (.sl true e sz cells) v F1 U1 ∧ (∀ b ∈ US r, b ∈ V ∨ b ∈ U1) ∧
      Rel w0 FA UA N w a ((E.setRoot r (updC cs q fun row => row.set j .junk)).bump r) blk (upd (upd FS r G) .hand (FS .hand ++ F1)) (upd (upd US r V) .hand (US .hand ++ U1)) := by
  have hrh : r ≠ .hand := by
    rintro rfl
    simp [St.root, h.nohand] at hr
  unfold St.place at hp
  rw [hr] at hp
  simp only [Option.bind_some] at hp
  obtain ⟨row, hc, hj⟩ := Option.bind_eq_some_iff.1 hp
  have hjunk : ∀ {v : Value}, v.oneCell' = true → rep w .junk v [] [] := fun h => by simp only [rep]; exact ⟨h, trivial, trivial⟩
  -- at a header's row: the row with junk in the tree's place, the container as it was
  have inner : ∀ {ts : List TV} {vs : List Value} {F U : List Nat} (c : Nat) (q' : List Nat), reps w ts vs F U → ownP ts (c :: q') = true → cont ts (c :: q') = some row → ∀ {hv0 : Value}, vs[c]? = some hv0 → ∀ {ad : Addr}, baseV w hv0 q' = some ad → w.cell? (ad.add j) = some v →
      ∃ A B C D F1 U1, F = A ++ F1 ++ B ∧ U = C ++ U1 ++ D ∧ rep w (.sl true e sz cells) v F1 U1 ∧ reps w (updC ts (c :: q') fun row => row.set j .junk) vs (A ++ B) (C ++ D) := by
    intro ts vs F U c q' hrs hown hcont hv0 hvs ad hba hcell
    obtain ⟨vc, hv1, n, e1, sz1, rvs, A, B, C, D, F1, U1, h1, h2, h3, rfl, rfl, h4, h5⟩ := upd_rep q' c hrs hown hcont
    rw [hvs] at h1
    injection h1 with h1
    subst h1
    obtain ⟨v', A2, B2, C2, D2, F2, U2, h6, h7, rfl, rfl, h8⟩ := reps_get j h3 hj
    have hvv : v' = v := by
      obtain ⟨ad', n', c', hvc, hcell'⟩ := own_Reads h2 j v' h6
      have := h4 ad' n' c' hvc
      rw [hba] at this
      injection this with this
      subst this
      rw [hcell] at hcell'
      injection hcell' with hcell'
      exact hcell'.symm
    subst hvv
    refine ⟨A ++ (blkOf vc ++ A2), B2 ++ B, C ++ C2, D2 ++ D, F2, U2, by simp, by simp, h7, ?_⟩
    have h9 := h8 w .junk v' [] [] (hjunk (rep_one h7)) (fun _ _ => rfl) (fun _ _ => rfl)
    rw [set_self h6] at h9
    have := h5 w _ rvs _ _ h2 h9 (fun _ _ => rfl) (fun _ _ => rfl) (fun row => row.set j .junk) rfl
    simpa using this
  have hmemcase : r.mem = true → ∃ A B C D F1 U1, FS r = A ++ F1 ++ B ∧ US r = C ++ U1 ++ D ∧ rep w (.sl true e sz cells) v F1 U1 ∧
      ∃ cur T F, w.heap[blk r]? = some (.cells cur T (0, 0)) ∧ reps w (updC cs q fun row => row.set j .junk) cur.toList F (C ++ D) ∧ A ++ B = blk r :: F := by
    intro hm
    have hbr : E.boxes r = some cs := by cases r <;> simp_all [St.root, Root.mem]
    have hrc : ∀ c, rootCell w a blk r c = w.cell? ((⟨blk r, 0, none⟩ : Addr).add c) := by intro c; cases r <;> simp_all [rootCell, Root.mem]
    rcases h.box r hm with ⟨h1, _⟩ | ⟨cs', cur, T, F, h1, h2, h3, h4⟩
    · rw [h1] at hbr; cases hbr
    · rw [h1] at hbr
      injection hbr with hbr
      subst hbr
      have hcellcur : ∀ c u, cur.toList[c]? = some u → w.cell? ((⟨blk r, 0, none⟩ : Addr).add c) = some u := by
        intro c u hu
        have hu' : cur[c]? = some u := by simpa using hu
        unfold World.cell?
        rw [add_block]
        simp only [h2]
        unfold Addr.add
        split
        · rename_i h0; subst h0; simpa using hu'
        · simpa using hu'
      cases q with
      | nil =>
        simp only [cont, Option.some.injEq] at hc
        subst hc
        obtain ⟨v', A, B, C, D, F1, U1, h5, h6, rfl, hU, h7⟩ := reps_get j h3 hj
        have hvv : v' = v := by
          simp only [pv] at hv
          rw [hrc, hcellcur j v' h5] at hv
          injection hv
        subst hvv
        have h8 := h7 w .junk v' [] [] (hjunk (rep_one h6)) (fun _ _ => rfl) (fun _ _ => rfl)
        rw [set_self h5] at h8
        exact ⟨blk r :: A, B, C, D, F1, U1, by rw [h4]; simp, hU, h6, cur, T, A ++ B, h2, by simpa [updC] using h8, rfl⟩
      | cons c q =>
        simp only [pv] at hv
        obtain ⟨hv0, h5, hv⟩ := Option.bind_eq_some_iff.1 hv
        obtain ⟨ad, h6, h7⟩ := Option.bind_eq_some_iff.1 hv
        rw [hrc] at h5
        have hlen := reps_len h3
        have hcc : ∃ u, cur.toList[c]? = some u := by
          have hcl : c < cs'.length := by
            simp only [cont] at hc
            split at hc
            · rename_i hcs
              exact (List.getElem?_eq_some_iff.1 hcs).1
            · cases hc
          exact ⟨_, List.getElem?_eq_getElem (by omega)⟩
        obtain ⟨u, hu⟩ := hcc
        have : u = hv0 := by
          rw [hcellcur c u hu] at h5
          injection h5
        subst this
        obtain ⟨A, B, C, D, F1, U1, rfl, hU, h8, h9⟩ := inner c q h3 ho hc hu h6 h7
        exact ⟨blk r :: A, B, C, D, F1, U1, by rw [h4]; simp, hU, h8, cur, T, A ++ B, h2, h9, rfl⟩
  have hslotcase : ∀ n, r = .slot n → ∃ A B C D F1 U1, FS r = A ++ F1 ++ B ∧ US r = C ++ U1 ++ D ∧ rep w (.sl true e sz cells) v F1 U1 ∧
      svX w a E blk ((E.slots n).withCells (updC cs q fun row => row.set j .junk)) (a.eval (.tmp n)) (A ++ B) (C ++ D) := by
    intro n hn
    subst hn
    have hs := h.slot n
    simp only [St.root, Option.some.injEq] at hr
    -- the cells, as a list
    have key : ∀ (vs : List Value) (F U : List Nat), cellsX w a E blk cs vs F U → (∀ c : Nat, (a.eval (.tmp n)).cells[c]? = vs[c]?) →
        ∃ A B C D F1 U1, F = A ++ F1 ++ B ∧ U = C ++ U1 ++ D ∧ rep w (.sl true e sz cells) v F1 U1 ∧ cellsX w a E blk (updC cs q fun row => row.set j .junk) vs (A ++ B) (C ++ D) := by
      intro vs F U hx hvs
      cases q with
      | nil =>
        simp only [cont, Option.some.injEq] at hc
        subst hc
        obtain ⟨v', A, B, C, D, F1, U1, h5, h6, rfl, rfl, h7⟩ := cellsX_upd j hx hj
        have hvv : v' = v := by
          simp only [pv, rootCell] at hv
          rw [hvs, h5] at hv
          injection hv
        subst hvv
        have := h7 .junk [] [] ⟨rfl, rfl⟩
        exact ⟨A, B, C, D, F1, U1, rfl, rfl, h6, by simpa [updC] using this⟩
      | cons c q =>
        have hcs : ∃ o1 e1 s1 cl1, cs[c]? = some (.sl o1 e1 s1 cl1) := by
          simp only [cont] at hc
          split at hc
          · exact ⟨_, _, _, _, by assumption⟩
          · cases hc
        obtain ⟨o1, e1, s1, cl1, hcs⟩ := hcs
        obtain ⟨v', A, B, C, D, F1, U1, h5, h6, rfl, rfl, h7⟩ := cellsX_upd c hx hcs
        simp only [pv, rootCell] at hv
        rw [hvs, h5] at hv
        simp only [Option.bind_some] at hv
        obtain ⟨ad, h8, h9⟩ := Option.bind_eq_some_iff.1 hv
        have h10 : reps w [.sl o1 e1 s1 cl1] [v'] F1 U1 := by simp only [reps]; exact ⟨v', [], F1, [], U1, [], rfl, by simp, by simp, h6, rfl, rfl, rfl⟩
        have h11 : cont [.sl o1 e1 s1 cl1] (0 :: q) = some row := by
          simp only [cont, hcs] at hc
          simpa [cont] using hc
        have h12 : ownP [.sl o1 e1 s1 cl1] (0 :: q) = true := by
          simp only [ownP, hcs] at ho
          simpa [ownP] using ho
        obtain ⟨A2, B2, C2, D2, F2, U2, rfl, rfl, h13, h14⟩ := inner 0 q h10 h12 h11 (by rfl) h8 h9
        refine ⟨A ++ A2, B2 ++ B, C ++ C2, D2 ++ D, F2, U2, by simp, by simp, h13, ?_⟩
        simp only [updC, List.getElem?_cons_zero, List.set_cons_zero] at h14
        simp only [reps] at h14
        obtain ⟨v2, vs2, G1, G2, V1, V2, hh, hF, hU, h15, rfl, rfl, rfl⟩ := h14
        injection hh with hh _
        subst hh
        have := h7 _ _ _ (cellX_of_rep h15)
        simp only [updC, hcs]
        simp only [List.append_nil] at hF hU
        rw [← hF, ← hU] at this
        simpa using this
    cases hsl : E.slots n with
    | one t =>
      rw [hsl] at hs hr
      simp only [SV.cells] at hr
      subst hr
      simp only [svX] at hs
      obtain ⟨hx, hjk⟩ := hs
      have hnj : t.isJunk = false := by
        cases t with
        | junk =>
          cases q with
          | nil => simp [cont] at hc; subst hc; cases j <;> simp at hj
          | cons c q => simp [cont] at hc; cases c <;> simp at hc
        | _ => rfl
      obtain ⟨A, B, C, D, F1, U1, h1, h2, h3, h4⟩ := key [a.eval (.tmp n)] (FS (.slot n)) (US (.slot n)) ⟨_, [], _, [], _, [], rfl, by simp, by simp, hx, rfl, rfl, rfl⟩ (fun c => by rw [hjk hnj]; simp)
      refine ⟨A, B, C, D, F1, U1, h1, h2, h3, ?_⟩
      have hlen : (updC [t] q fun row => row.set j .junk).length = 1 := by
        cases q with
        | nil => simp [updC]
        | cons c q =>
          simp only [updC]
          split <;> simp
      match hu : updC [t] q fun row => row.set j .junk, hlen with
      | [t'], _ =>
        rw [hu] at h4
        obtain ⟨v2, vs2, G1, G2, V1, V2, hh, hF, hU, h15, rfl, rfl, rfl⟩ := h4
        injection hh with hh _
        subst hh
        simp only [List.append_nil] at hF hU
        rw [hF, hU]
        simp only [SV.withCells, svX]
        exact ⟨h15, fun _ => hjk hnj⟩
    | agg ts =>
      rw [hsl] at hs hr
      simp only [SV.cells] at hr
      subst hr
      simp only [svX] at hs
      obtain ⟨vs, hvs, hx⟩ := hs
      obtain ⟨A, B, C, D, F1, U1, h1, h2, h3, h4⟩ := key vs _ _ hx (fun c => by rw [hvs]; simp [Value.cells])
      refine ⟨A, B, C, D, F1, U1, h1, h2, h3, ?_⟩
      simp only [SV.withCells, svX]
      exact ⟨vs, hvs, h4⟩
    | tup ss =>
      rw [hsl] at hr
      simp only [SV.cells] at hr
      subst hr
      cases q with
      | nil => simp [cont] at hc; subst hc; simp at hj
      | cons c q => simp [cont] at hc
  have hlenU : r.mem = true → ∀ cs0, E.root r = some cs0 → (updC cs q fun row => row.set j .junk).length = cs0.length := by
    intro _ cs0 h0
    rw [hr] at h0
    injection h0 with h0
    subst h0
    cases q with
    | nil => simp [updC]
    | cons c q =>
      simp only [updC]
      split <;> simp
  have fin : ∀ A B C D F1 U1, FS r = A ++ F1 ++ B → US r = C ++ U1 ++ D → rep w (.sl true e sz cells) v F1 U1 →
      (∀ n, r = .slot n → svX w a E blk ((E.slots n).withCells (updC cs q fun row => row.set j .junk)) (a.eval (.tmp n)) (A ++ B) (C ++ D)) →
      (r.mem = true → ∃ cur T F, w.heap[blk r]? = some (.cells cur T (0, 0)) ∧ reps w (updC cs q fun row => row.set j .junk) cur.toList F (C ++ D) ∧ A ++ B = blk r :: F) →
      ∃ F1 U1 G V, rep w (.sl true e sz cells) v F1 U1 ∧ (∀ b ∈ US r, b ∈ V ∨ b ∈ U1) ∧
        Rel w0 FA UA N w a ((E.setRoot r (updC cs q fun row => row.set j .junk)).bump r) blk (upd (upd FS r G) .hand (FS .hand ++ F1)) (upd (upd US r V) .hand (US .hand ++ U1)) := by
    intro A B C D F1 U1 h1 h2 h3 h4 h5
    exact ⟨F1, U1, A ++ B, C ++ D, h3, fun b hb => by { rw [h2] at hb; simp at hb ⊢; rcases hb with hb | hb | hb <;> simp [hb] }, h.out hrh h1 hlenU (fun b hb => by rw [h2]; simp at hb ⊢; rcases hb with hb | hb <;> simp [hb]) (fun b hb => by rw [h2]; simp [hb]) h4 h5⟩
  cases hm : r.mem with
  | true =>
    obtain ⟨A, B, C, D, F1, U1, h1, h2, h3, h4⟩ := hmemcase hm
    exact fin A B C D F1 U1 h1 h2 h3 (fun n hn => by subst hn; cases hm) (fun _ => h4)
  | false =>
    cases r with
    | slot n =>
      obtain ⟨A, B, C, D, F1, U1, h1, h2, h3, h4⟩ := hslotcase n rfl
      exact fin A B C D F1 U1 h1 h2 h3 (fun m hm' => by injection hm' with hm'; subst hm'; exact h4) (fun hm' => by cases hm')
    | hand => exact absurd rfl hrh
    | box n => cases hm
    | ext n => cases hm
end
end Go.TI
