/- The rights of a role, asked and told. Conditions: none. -/
import Derived.Test.YtobkmdnplcmndaaGreatDoorLH
import Derived.Maps.Range
set_option linter.unusedVariables false
set_option linter.unusedSimpArgs false
namespace Go.Ab
open Go.RowKit Go.Maps
abbrev UnF := List roleE.ty → List UInt8 → Option (List (List UInt8))
abbrev CtF := List (List UInt8) → List UInt8 → Option Bool
abbrev VgF := List roleE.ty → List grantE.ty → Option Bool
abbrev RoF := List roleE.ty → List UInt8 → Option Int
abbrev WmF := List roleE.ty → List grantE.ty → List UInt8 → Int → Option (List (List UInt8) × Int)
def iaF (vg : VgF) (ro : RoF) (un : UnF) (ct : CtF) (roles : List roleE.ty) (grants : List grantE.ty) (nm obj : List UInt8) (act : Int) : Option Bool :=
 (vg roles grants).bind fun v => if v then (ro roles nm).bind fun r => if 0 ≤ r then (rtF un ct roles grants nm).bind fun S => if obj.length ≤ 1048576 ∧ -1000000 ≤ act ∧ act ≤ 1000000 then some (decide ((obj,act) ∈ S)) else none else some false else some false
noncomputable def iaC (vg : VgF) (ro : RoF) (un : UnF) (ct : CtF) : Callee :=
 { io := [],ps := [.d (.one (.sl roleE)),.d (.one (.sl grantE)),.d (.one .str),.d (.one .str),.d (.one (.int .i64))],rs := [.d (.one .bool)],os := [],f := fun x => iaF vg ro un ct x.1 x.2.1 x.2.2.1 x.2.2.2.1 x.2.2.2.2.1 }
def lrG (un : UnF) (ct : CtF) (roles : List roleE.ty) (grants : List grantE.ty) : List (List UInt8) → List UInt8 → Option (List UInt8)
 | [],best => some best
 | n :: ns,best => if best = [] then lrG un ct roles grants ns n else (rtF un ct roles grants n).bind fun S => (rtF un ct roles grants best).bind fun T => lrG un ct roles grants ns (if S.length < T.length then n else best)
def lrF (wm : WmF) (un : UnF) (ct : CtF) (roles : List roleE.ty) (grants : List grantE.ty) (obj : List UInt8) (act : Int) : Option (List UInt8 × Int) :=
 (wm roles grants obj act).bind fun p => if p.2 ≠ 0 then some ([],p.2) else if p.1.length ≤ 1000 then (lrG un ct roles grants p.1 []).bind fun best => if best = [] then some ([],3) else some (best,0) else none
noncomputable def lrC (wm : WmF) (un : UnF) (ct : CtF) : Callee :=
 { io := [],ps := [.d (.one (.sl roleE)),.d (.one (.sl grantE)),.d (.one .str),.d (.one (.int .i64))],rs := [.d (.one .str),.d (.one (.int .i64))],os := [],f := fun x => lrF wm un ct x.1 x.2.1 x.2.2.1 x.2.2.2.1 }
def cmpP (p q : List UInt8 × Int) : Int := if Lib.compareBytes p.1 q.1 ≠ 0 then Lib.compareBytes p.1 q.1 else p.2 - q.2
theorem Z07 : ∀ (x y : List UInt8),(Lib.compareBytes x y < 0 ↔ x < y) ∧ (Lib.compareBytes x y = 0 ↔ x = y)
 | [],[] => by simp [Lib.compareBytes]
 | [],_ :: _ => by simp [Lib.compareBytes]
 | _ :: _,[] => by simp [Lib.compareBytes]
 | a :: x,b :: y => by
   have IH := Z07 x y
   rw [Lib.compareBytes,List.cons_lt_cons_iff,List.cons.injEq]
   by_cases c1 : a < b
   ·have hne : a ≠ b := fun e => by subst e; exact absurd c1 (UInt8.lt_irrefl a)
    simp [c1,hne]
   ·by_cases c2 : b < a
    ·have hne : a ≠ b := fun e => by subst e; exact absurd c2 (UInt8.lt_irrefl a)
     simp [c1,c2,hne]
    ·have he : a = b := UInt8.le_antisymm (UInt8.not_lt.1 c2) (UInt8.not_lt.1 c1)
     simp [c1,c2,he,IH.1,IH.2]
theorem Zpe (p q : List UInt8 × Int) : cmpP p q < 0 ↔ p.1 < q.1 ∨ p.1 = q.1 ∧ p.2 < q.2 := by
 have h := Z07 p.1 q.1
 unfold cmpP
 by_cases c : Lib.compareBytes p.1 q.1 = 0
 ·rw [if_neg (by simpa using c)]
  have e := h.2.1 c
  constructor
  ·intro h1; exact .inr ⟨e,by omega⟩
  ·rintro (h1 | ⟨_,h1⟩)
   ·rw [e] at h1; exact absurd h1 (List.lt_irrefl _)
   ·omega
 ·rw [if_pos (by simpa using c),h.1]
  constructor
  ·exact .inl
  ·rintro (h1 | ⟨h1,_⟩)
   ·exact h1
   ·exact absurd (h.2.2 h1) c
theorem Z8z (a b : List UInt8) : a < b ∨ a = b ∨ b < a := by
 by_cases h1 : a < b
 ·exact .inl h1
 ·by_cases h2 : b < a
  ·exact .inr (.inr h2)
  ·exact .inr (.inl (List.le_antisymm (List.not_lt.1 h2) (List.not_lt.1 h1)))
theorem Zjk (p q : List UInt8 × Int) : cmpP p q < 0 ∨ p = q ∨ cmpP q p < 0 := by
 rw [Zpe,Zpe]
 rcases Z8z p.1 q.1 with h | h | h
 ·exact .inl (.inl h)
 ·rcases Int.lt_trichotomy p.2 q.2 with k | k | k
  ·exact .inl (.inr ⟨h,k⟩)
  ·exact .inr (.inl (Prod.ext h k))
  ·exact .inr (.inr (.inr ⟨h.symm,k⟩))
 ·exact .inr (.inr (.inl h))
theorem Zf8 {p q r : List UInt8 × Int} (h : cmpP p q < 0) (h' : cmpP q r < 0) : cmpP p r < 0 := by
 rw [Zpe] at *
 rcases h with h | ⟨e,h⟩
 ·rcases h' with h' | ⟨e',_⟩
  ·exact .inl (List.lt_trans h h')
  ·exact .inl (e' ▸ h)
 ·rcases h' with h' | ⟨e',h'⟩
  ·exact .inl (e ▸ h')
  ·exact .inr ⟨e.trans e',Int.lt_trans h h'⟩
theorem Zo4 (p : List UInt8 × Int) : ¬ cmpP p p < 0 := by
 rw [Zpe]
 rintro (h | ⟨_,h⟩)
 ·exact List.lt_irrefl _ h
 ·omega
def roF (vg : VgF) (ro : RoF) (un : UnF) (ct : CtF) (roles : List roleE.ty) (grants : List grantE.ty) (nm : List UInt8) : Option (List grantE.ty × Int) :=
 (vg roles grants).bind fun v => if v then (ro roles nm).bind fun r => if 0 ≤ r then (rtF un ct roles grants nm).bind fun S => if S.length ≤ 1000000 then some ((S.mergeSort fun p q => !decide (cmpP q p < 0)).map fun p => ((nm,p.1,p.2,()) : grantE.ty),0) else none else some ([],3) else some ([],1)
noncomputable def roC (vg : VgF) (ro : RoF) (un : UnF) (ct : CtF) : Callee :=
 { io := [],ps := [.d (.one (.sl roleE)),.d (.one (.sl grantE)),.d (.one .str)],rs := [.d (.one (.sl grantE)),.d (.one (.int .i64))],os := [],f := fun x => roF vg ro un ct x.1 x.2.1 x.2.2.1 }
theorem Z02 {α : Type} [DecidableEq α] : ∀ {l m : List α},l.Nodup → (∀ x,x ∈ l → x ∈ m) → l.length ≤ m.length
 | [],_,_,_ => Nat.zero_le _
 | a :: l,m,h,hs => by
   obtain ⟨h1,h2⟩ := List.nodup_cons.1 h
   have ha := hs a List.mem_cons_self
   have := Z02 (l := l) (m := m.erase a) h2 fun x hx => (List.mem_erase_of_ne (a := x) (b := a) (fun e => h1 (by rw [← e]; exact hx))).2 (hs x (List.mem_cons_of_mem _ hx))
   rw [List.length_erase_of_mem ha] at this
   have := List.length_pos_of_mem ha
   rw [List.length_cons]; omega
theorem Z42 {P : Program} {k : TypeId} {R : Value → Option (DataW Unit × List MemPlace)} {w : World} {b n : Nat} {D : DataW Unit} {S : List (List UInt8 × Int)} (K : RKeys P k) (hown : w.ownsMap P k R b n D) (hnd : S.Nodup) (hsm : ∀ p ∈ S,rsm p) (hsz : Maps.size D = S.length)
 (hch : ∀ p,rsm p → has D (rlit p) = decide (p ∈ S) ∧ D.atKey (rlit p) (.lit (.bool false)) = .lit (.bool (decide (p ∈ S)))) (kl : Lit) (h : has D kl = true) : ∃ p,p ∈ S ∧ kl = rlit p := by
 classical
 obtain ⟨es,rfl,hpw,_⟩ := hown.entries K.1
 rw [size_eq] at hsz
 have hsub : ∀ x,x ∈ S.map rlit → x ∈ es.map (·.1) := fun x hx => by
  obtain ⟨p,hp,rfl⟩ := List.mem_map.1 hx
  have h1 := (hch p (hsm p hp)).1
  rw [has_eq,decide_eq_true hp,List.any_eq_true] at h1
  obtain ⟨e,he,hk⟩ := h1
  refine List.mem_map.2 ⟨e,he,?_⟩
  cases h2 : e.1 <;> rw [h2] at hk <;> simp [Lit.sameKey,rlit] at hk
  rw [rlit,hk]
 have hn1 : (S.map rlit).Nodup := by
  unfold List.Nodup
  rw [List.pairwise_map]
  exact hnd.imp_of_mem fun {p q} hp hq hne e => hne (K.inj (hsm p hp) (hsm q hq) e)
 have hback : ∀ x,x ∈ es.map (·.1) → x ∈ S.map rlit := fun x hx => by
  apply Classical.byContradiction
  intro hno
  have hle : (S.map rlit).length ≤ ((es.map (·.1)).erase x).length := Z02 hn1 fun y hy => (List.mem_erase_of_ne (a := y) (b := x) (fun e => hno (by rw [← e]; exact hy))).2 (hsub y hy)
  rw [List.length_erase_of_mem hx,List.length_map,List.length_map] at hle
  have := List.length_pos_of_mem hx
  rw [List.length_map] at this
  omega
 rw [has_eq,List.any_eq_true] at h
 obtain ⟨e,he,hk⟩ := h
 obtain ⟨p,hp,hpe⟩ := List.mem_map.1 (hback e.1 (List.mem_map_of_mem he))
 refine ⟨p,hp,?_⟩
 rw [← hpe,rlit] at hk
 cases kl <;> simp [Lit.sameKey] at hk
 rw [rlit,hk]
abbrev RtA := {p : List UInt8 × Int // rsm p}
def CollR (D : DataW Unit) (left : Lit → Bool) (ps : List RtA) : Prop := ps.Nodup ∧ ∀ p : RtA,p ∈ ps ↔ (has D (rlit p.1) = true ∧ left (rlit p.1) = false)
theorem CollR.start (D : DataW Unit) : CollR D (has D) [] := ⟨List.nodup_nil,fun p => by cases has D (rlit p.1) <;> simp⟩
theorem CollR.step {P : Program} {k : TypeId} (K : RKeys P k) {D : DataW Unit} {left : Lit → Bool} {ps : List RtA} (h : CollR D left ps) {p : RtA} (hl : left (rlit p.1) = true) (hh : has D (rlit p.1) = true) : CollR D (fun z => left z && !z.sameKey (rlit p.1)) (ps ++ [p]) := by
 have hnew : p ∉ ps := fun hx => by have := ((h.2 p).1 hx).2; rw [hl] at this; cases this
 refine ⟨List.nodup_append.2 ⟨h.1,by simp,fun a ha b hb => by simp at hb; subst hb; exact fun e => hnew (e ▸ ha)⟩,fun y => ?_⟩
 by_cases hy : y = p
 ·subst hy
  have hs : (rlit y.1).sameKey (rlit y.1) = true := by simp [Lit.sameKey,rlit]
  simp [hh,hs]
 ·have hne : rlit y.1 ≠ rlit p.1 := fun e => hy (Subtype.ext (K.inj y.2 p.2 e))
  have hs : (rlit y.1).sameKey (rlit p.1) = false := by
   simp only [Lit.sameKey,rlit,beq_eq_false_iff_ne,ne_eq]
   intro e; exact hne (by rw [rlit,rlit,e])
  rw [List.mem_append,List.mem_singleton,h.2 y]
  show _ ↔ has D (rlit y.1) = true ∧ (left (rlit y.1) && !(rlit y.1).sameKey (rlit p.1)) = false
  rw [hs]
  simp [hy]
theorem CollR.perm {D : DataW Unit} {left : Lit → Bool} {ps : List RtA} {S : List (List UInt8 × Int)} (h : CollR D left ps) (hl : ∀ kl,left kl = false) (hnd : S.Nodup) (hsm : ∀ p ∈ S,rsm p)
 (hch : ∀ p,rsm p → has D (rlit p) = decide (p ∈ S) ∧ D.atKey (rlit p) (.lit (.bool false)) = .lit (.bool (decide (p ∈ S)))) : (ps.map (·.1)).Perm S := by
 have hn : (ps.map (·.1)).Nodup := by
  unfold List.Nodup
  rw [List.pairwise_map]
  exact h.1.imp fun {p q} hne e => hne (Subtype.ext e)
 refine (List.perm_ext_iff_of_nodup hn hnd).2 fun x => ?_
 rw [List.mem_map]
 constructor
 ·rintro ⟨p,hp,rfl⟩
  have := ((h.2 p).1 hp).1
  rw [(hch p.1 p.2).1,decide_eq_true_eq] at this
  exact this
 ·intro hx
  refine ⟨⟨x,hsm x hx⟩,(h.2 _).2 ⟨?_,hl _⟩,rfl⟩
  rw [(hch x (hsm x hx)).1,decide_eq_true hx]
theorem Z44 {ps : List RtA} {S : List (List UInt8 × Int)} (h : (ps.map (·.1)).Perm S) : (ps.mergeSort fun x y => !decide (cmpP y.1 x.1 < 0)).map (·.1) = S.mergeSort fun p q => !decide (cmpP q p < 0) := by
 have tr : ∀ a b c : List UInt8 × Int,(!decide (cmpP b a < 0)) = true → (!decide (cmpP c b < 0)) = true → (!decide (cmpP c a < 0)) = true := fun a b c h1 h2 => by
  simp only [Bool.not_eq_true',decide_eq_false_iff_not] at *
  intro h3
  rcases Zjk a b with k | k | k
  ·exact h2 (Zf8 h3 k)
  ·subst k; exact h2 h3
  ·exact h1 k
 have to : ∀ a b : List UInt8 × Int,((!decide (cmpP b a < 0)) || (!decide (cmpP a b < 0))) = true := fun a b => by
  simp only [Bool.or_eq_true,Bool.not_eq_true',decide_eq_false_iff_not]
  by_cases k : cmpP b a < 0
  ·right; intro k2; exact Zo4 _ (Zf8 k k2)
  ·left; exact k
 have p1 : ((ps.mergeSort fun x y => !decide (cmpP y.1 x.1 < 0)).map (·.1)).Pairwise fun p q => (!decide (cmpP q p < 0)) = true := by
  rw [List.pairwise_map]
  exact List.pairwise_mergeSort (le := fun x y : RtA => !decide (cmpP y.1 x.1 < 0)) (fun a b c => tr a.1 b.1 c.1) (fun a b => to a.1 b.1) ps
 refine List.Perm.eq_of_pairwise (le := fun p q => (!decide (cmpP q p < 0)) = true) (fun a b _ _ h1 h2 => ?_) p1 (List.pairwise_mergeSort tr to S) ((((List.mergeSort_perm ps _).map (·.1)).trans h).trans (List.mergeSort_perm S _).symm)
 simp only [Bool.not_eq_true',decide_eq_false_iff_not] at h1 h2
 rcases Zjk a b with k | k | k
 ·exact absurd k h2
 ·exact k
 ·exact absurd k h1
structure IaWalk (P : Program) (fn nv nr nu nc : Nat) : Prop where
 en : Entered P fn
 run : ∀ (φ : Nat → Nat) (gv gr gu gc : Nat) (vg : VgF) (ro : RoF) (un : UnF) (ct : CtF),φ gv = nv → φ gr = nr → φ gu = nu → φ gc = nc →
  (∀ r g y,vg r g = some y → CallOk P φ gv [.sl 2 (r.map roleE.enc),.sl 3 (g.map grantE.enc)] [.bool y] []) →
  (∀ r n y,ro r n = some y → CallOk P φ gr [.sl 2 (r.map roleE.enc),.str n] [.int .i64 y] []) →
  (∀ r n y,un r n = some y → CallOk P φ gu [.sl 2 (r.map roleE.enc),.str n] [.tok 0 1 (y.map strE.enc)] []) →
  (∀ l x y,ct l x = some y → CallOk P φ gc [.sl 1 (l.map strE.enc),.str x] [.bool y] []) →
  ∀ (roles : List roleE.ty) (grants : List grantE.ty) (nm obj : List UInt8) (act : Int) (y : Bool),iaF vg ro un ct roles grants nm obj act = some y →
  ∀ (w : World) (K : Nat → Prop) (v1 v2 : Value),Rep φ w K v1 (.sl 2 (roles.map roleE.enc)) → Rep φ w K v2 (.sl 3 (grants.map grantE.enc)) → (∀ b,K b → b < w.heap.size) → Glob P K w →
  Calls P fn #[v1,v2,encT nm,encT obj,.int .i64 act] w fun r w' => r = .returned (.bool y) ∧ Lo w.heap.size w w'
structure LrWalk (P : Program) (fn nw nu nc : Nat) : Prop where
 en : Entered P fn
 run : ∀ (φ : Nat → Nat) (gw gu gc : Nat) (wm : WmF) (un : UnF) (ct : CtF),φ gw = nw → φ gu = nu → φ gc = nc →
  (∀ r g o a y c,wm r g o a = some (y,c) → CallOk P φ gw [.sl 2 (r.map roleE.enc),.sl 3 (g.map grantE.enc),.str o,.int .i64 a] [.sl 1 (y.map strE.enc),.int .i64 c] []) →
  (∀ r n y,un r n = some y → CallOk P φ gu [.sl 2 (r.map roleE.enc),.str n] [.tok 0 1 (y.map strE.enc)] []) →
  (∀ l x y,ct l x = some y → CallOk P φ gc [.sl 1 (l.map strE.enc),.str x] [.bool y] []) →
  ∀ (roles : List roleE.ty) (grants : List grantE.ty) (obj : List UInt8) (act : Int) (best : List UInt8) (c : Int),lrF wm un ct roles grants obj act = some (best,c) →
  ∀ (w : World) (K : Nat → Prop) (v1 v2 : Value),Rep φ w K v1 (.sl 2 (roles.map roleE.enc)) → Rep φ w K v2 (.sl 3 (grants.map grantE.enc)) → (∀ b,K b → b < w.heap.size) → Glob P K w →
  Calls P fn #[v1,v2,encT obj,.int .i64 act] w fun r w' => r = .returned (.tuple #[encT best,.int .i64 c]) ∧ Lo w.heap.size w w'
structure RoWalk (P : Program) (fn nv nr nu nc : Nat) : Prop where
 en : Entered P fn
 run : ∀ (φ : Nat → Nat) (gv gr gu gc : Nat) (vg : VgF) (ro : RoF) (un : UnF) (ct : CtF),φ gv = nv → φ gr = nr → φ gu = nu → φ gc = nc →
  (∀ r g y,vg r g = some y → CallOk P φ gv [.sl 2 (r.map roleE.enc),.sl 3 (g.map grantE.enc)] [.bool y] []) →
  (∀ r n y,ro r n = some y → CallOk P φ gr [.sl 2 (r.map roleE.enc),.str n] [.int .i64 y] []) →
  (∀ r n y,un r n = some y → CallOk P φ gu [.sl 2 (r.map roleE.enc),.str n] [.tok 0 1 (y.map strE.enc)] []) →
  (∀ l x y,ct l x = some y → CallOk P φ gc [.sl 1 (l.map strE.enc),.str x] [.bool y] []) →
  ∀ (roles : List roleE.ty) (grants : List grantE.ty) (nm : List UInt8) (ys : List grantE.ty) (c : Int),roF vg ro un ct roles grants nm = some (ys,c) →
  ∀ (w : World) (K : Nat → Prop) (v1 v2 : Value),Rep φ w K v1 (.sl 2 (roles.map roleE.enc)) → Rep φ w K v2 (.sl 3 (grants.map grantE.enc)) → (∀ b,K b → b < w.heap.size) → Glob P K w →
  Calls P fn #[v1,v2,encT nm] w fun r w' => ∃ ad n cp,r = .returned (.tuple #[.slice ad n cp,.int .i64 c]) ∧ Lo w.heap.size w w' ∧ Rep φ w' (fun b => w.heap.size ≤ b ∧ b < w'.heap.size) (.slice ad n cp) (.sl 3 (ys.map grantE.enc))
section
variable {P : Program} {φ : Nat → Nat}
theorem CallOk.of_news' {g : Nat} {al res : List A} (hn : al.any lentA = false)
 (h : ∀ (w : World) (K : Nat → Prop) (vs : List Value),Reps φ w K vs al → (∀ b,K b → b < w.heap.size) → Glob P K w →
   Calls P (φ g) vs.toArray w fun e w' => ∃ rvs,e = .returned (packV rvs) ∧ Lo w.heap.size w w' ∧ Reps φ w' (fun b => w.heap.size ≤ b ∧ b < w'.heap.size) rvs res) : CallOk P φ g al res [] := by
 intro w K vs bs ha hnd hKb hKz hG
 obtain ⟨hr,rfl⟩ := ha.noLent hn
 refine (h w K vs hr hKz hG).mono fun e w' hh => ?_
 obtain ⟨rvs,rfl,hb,h3⟩ := hh
 refine ⟨_,rfl,hb.size,fun b hb' _ => hb.block b hb',⟨hb.os,hb.output⟩,fun b off hb' => frozen?_block (hb.block b hb') off,fun b n hr => hr.of_block (hb.block b hr.lt),?_⟩
 exact ⟨rvs,fun b => K b ∨ (w.heap.size ≤ b ∧ b < w'.heap.size),[],[],rfl,fun _ h => .inl h,fun _ h => h.elim .inl fun h => .inr (.inr h),
  ResReps.of_reps (h3.mono (fun _ _ => rfl) fun _ h => .inr h),OutReps.data_all ha.len hn,by simp,fun b hb' => by simp at hb'⟩
theorem Z4x {D : List (Nat × Callee)} {H : List (Nat × ET)} {fn : Fn} {E1 E2 E3 E4 R S : ET} {g : Nat} (h : FOk P φ g (Zad D H fn [.d E1,.d E2,.d E3,.d E4] [.d R,.d S] [])) {x1 : E1.ty} {x2 : E2.ty} {x3 : E3.ty} {x4 : E4.ty} {y : R.ty} {c : S.ty}
 (hf : (Zad D H fn [.d E1,.d E2,.d E3,.d E4] [.d R,.d S] []).f (x1,x2,x3,x4,()) = some (y,c)) : CallOk P φ g [E1.enc x1,E2.enc x2,E3.enc x3,E4.enc x4] [R.enc y,S.enc c] [] := by
 have e : (Zad D H fn [.d E1,.d E2,.d E3,.d E4] [.d R,.d S] []).cf [E1.enc x1,E2.enc x2,E3.enc x3,E4.enc x4] = some ([R.enc y,S.enc c],[]) := by
  rw [Callee.cf_eq (c := Zad D H fn [.d E1,.d E2,.d E3,.d E4] [.d R,.d S] []) (as := [E1.enc x1,E2.enc x2,E3.enc x3,E4.enc x4]) (x := (x1,x2,x3,x4,())) rfl (by
   show normU [MT.d E1,.d E2,.d E3,.d E4] [E1.enc x1,E2.enc x2,E3.enc x3,E4.enc x4] = [(E1.v x1).a,(E2.v x2).a,(E3.v x3).a,(E4.v x4).a]
   rw [Zge rfl,ET.v_a,ET.v_a,ET.v_a,ET.v_a]),hf]
  show some ([(R.v y).a,(S.v c).a],[]) = _
  rw [ET.v_a,ET.v_a]
 exact h.2 _ _ _ e
theorem ia_ok {vg : VgF} {ro : RoF} {un : UnF} {ct : CtF} {fn nv nr nu nc g gv gr gu gc : Nat} (L : IaWalk P fn nv nr nu nc) (hφ : [g,gv,gr,gu,gc].map φ = [fn,nv,nr,nu,nc])
 (ov : ∀ r g y,vg r g = some y → CallOk P φ gv [.sl 2 (r.map roleE.enc),.sl 3 (g.map grantE.enc)] [.bool y] [])
 (or : ∀ r n y,ro r n = some y → CallOk P φ gr [.sl 2 (r.map roleE.enc),.str n] [.int .i64 y] [])
 (ou : ∀ r n y,un r n = some y → CallOk P φ gu [.sl 2 (r.map roleE.enc),.str n] [.tok 0 1 (y.map strE.enc)] [])
 (oc : ∀ l x y,ct l x = some y → CallOk P φ gc [.sl 1 (l.map strE.enc),.str x] [.bool y] []) : FOk P φ g (iaC vg ro un ct) := by
 simp only [List.map_cons,List.map_nil,List.cons.injEq,and_true] at hφ
 obtain ⟨h1,h2,h3,h4,h5⟩ := hφ
 refine FOk.of_contract (by rw [h1]; exact L.en) rfl rfl fun x y hy => ?_
 obtain ⟨r,a,n,o,c,⟨⟩⟩ := x
 have e1 : encU (iaC vg ro un ct).ps (r,a,n,o,c,()) = [.sl 2 ((show List roleE.ty from r).map roleE.enc),.sl 3 ((show List grantE.ty from a).map grantE.enc),.str n,.str o,.int .i64 c] := by
  have q2 : ((ET.one (.sl roleE)).v r).a = (ET.one (.sl roleE)).enc r := ET.v_a _ _
  have q3 : ((ET.one (.sl grantE)).v a).a = (ET.one (.sl grantE)).enc a := ET.v_a _ _
  show [((ET.one (.sl roleE)).v r).a,((ET.one (.sl grantE)).v a).a,A.str n,A.str o,A.int .i64 c] = _
  rw [q2,q3]
  rfl
 have e2 : resA (iaC vg ro un ct) y = ([.bool (show Bool from y)],[]) := rfl
 have e3 := congrArg (fun z => CallOk P φ g z (resA (iaC vg ro un ct) y).1 (resA (iaC vg ro un ct) y).2) e1
 refine e3.mpr ?_
 rw [e2]
 refine CallOk.of_lo rfl fun w K vs hr hK hG => ?_
 cases hr with
 | cons v _ vs _ hv t =>
 cases t with
 | cons v2 _ vs2 _ hv2 t2 =>
 cases t2 with
 | cons v3 _ vs3 _ hv3 t3 =>
 cases t3 with
 | cons v4 _ vs4 _ hv4 t4 =>
 cases t4 with
 | cons v5 _ vs5 _ hv5 t5 =>
 cases t5; cases hv3; cases hv4; cases hv5
 have := L.run φ gv gr gu gc vg ro un ct h2 h3 h4 h5 ov or ou oc r a n o c y hy w K v v2 hv hv2 hK hG
 rw [h1]
 exact this.mono fun e w' hq => ⟨[.bool y],hq.1,hq.2,.cons _ _ _ _ (.bool _) .nil⟩
theorem lr_ok {wm : WmF} {un : UnF} {ct : CtF} {fn nw nu nc g gw gu gc : Nat} (L : LrWalk P fn nw nu nc) (hφ : [g,gw,gu,gc].map φ = [fn,nw,nu,nc])
 (ow : ∀ r g o a y c,wm r g o a = some (y,c) → CallOk P φ gw [.sl 2 (r.map roleE.enc),.sl 3 (g.map grantE.enc),.str o,.int .i64 a] [.sl 1 (y.map strE.enc),.int .i64 c] [])
 (ou : ∀ r n y,un r n = some y → CallOk P φ gu [.sl 2 (r.map roleE.enc),.str n] [.tok 0 1 (y.map strE.enc)] [])
 (oc : ∀ l x y,ct l x = some y → CallOk P φ gc [.sl 1 (l.map strE.enc),.str x] [.bool y] []) : FOk P φ g (lrC wm un ct) := by
 simp only [List.map_cons,List.map_nil,List.cons.injEq,and_true] at hφ
 obtain ⟨h1,h2,h3,h4⟩ := hφ
 refine FOk.of_contract (by rw [h1]; exact L.en) rfl rfl fun x y hy => ?_
 obtain ⟨r,a,o,c,⟨⟩⟩ := x
 obtain ⟨best,cd⟩ : List UInt8 × Int := y
 have e1 : encU (lrC wm un ct).ps (r,a,o,c,()) = [.sl 2 ((show List roleE.ty from r).map roleE.enc),.sl 3 ((show List grantE.ty from a).map grantE.enc),.str o,.int .i64 c] := by
  have q2 : ((ET.one (.sl roleE)).v r).a = (ET.one (.sl roleE)).enc r := ET.v_a _ _
  have q3 : ((ET.one (.sl grantE)).v a).a = (ET.one (.sl grantE)).enc a := ET.v_a _ _
  show [((ET.one (.sl roleE)).v r).a,((ET.one (.sl grantE)).v a).a,A.str o,A.int .i64 c] = _
  rw [q2,q3]
  rfl
 have e2 : resA (lrC wm un ct) (best,cd) = ([.str best,.int .i64 cd],[]) := rfl
 have e3 := congrArg (fun z => CallOk P φ g z (resA (lrC wm un ct) (best,cd)).1 (resA (lrC wm un ct) (best,cd)).2) e1
 refine e3.mpr ?_
 rw [e2]
 refine CallOk.of_lo rfl fun w K vs hr hK hG => ?_
 cases hr with
 | cons v _ vs _ hv t =>
 cases t with
 | cons v2 _ vs2 _ hv2 t2 =>
 cases t2 with
 | cons v3 _ vs3 _ hv3 t3 =>
 cases t3 with
 | cons v4 _ vs4 _ hv4 t4 =>
 cases t4; cases hv3; cases hv4
 have := L.run φ gw gu gc wm un ct h2 h3 h4 ow ou oc r a o c best cd hy w K v v2 hv hv2 hK hG
 rw [h1]
 exact this.mono fun e w' hq => ⟨[encT best,.int .i64 cd],hq.1,hq.2,.cons _ _ _ _ (.str _) (.cons _ _ _ _ (.int _ _) .nil)⟩
theorem ro_ok {vg : VgF} {ro : RoF} {un : UnF} {ct : CtF} {fn nv nr nu nc g gv gr gu gc : Nat} (L : RoWalk P fn nv nr nu nc) (hφ : [g,gv,gr,gu,gc].map φ = [fn,nv,nr,nu,nc])
 (ov : ∀ r g y,vg r g = some y → CallOk P φ gv [.sl 2 (r.map roleE.enc),.sl 3 (g.map grantE.enc)] [.bool y] [])
 (or : ∀ r n y,ro r n = some y → CallOk P φ gr [.sl 2 (r.map roleE.enc),.str n] [.int .i64 y] [])
 (ou : ∀ r n y,un r n = some y → CallOk P φ gu [.sl 2 (r.map roleE.enc),.str n] [.tok 0 1 (y.map strE.enc)] [])
 (oc : ∀ l x y,ct l x = some y → CallOk P φ gc [.sl 1 (l.map strE.enc),.str x] [.bool y] []) : FOk P φ g (roC vg ro un ct) := by
 simp only [List.map_cons,List.map_nil,List.cons.injEq,and_true] at hφ
 obtain ⟨h1,h2,h3,h4,h5⟩ := hφ
 refine FOk.of_contract (by rw [h1]; exact L.en) rfl rfl fun x y hy => ?_
 obtain ⟨r,a,n,⟨⟩⟩ := x
 obtain ⟨ys,cd⟩ : List grantE.ty × Int := y
 have e1 : encU (roC vg ro un ct).ps (r,a,n,()) = [.sl 2 ((show List roleE.ty from r).map roleE.enc),.sl 3 ((show List grantE.ty from a).map grantE.enc),.str n] := by
  have q2 : ((ET.one (.sl roleE)).v r).a = (ET.one (.sl roleE)).enc r := ET.v_a _ _
  have q3 : ((ET.one (.sl grantE)).v a).a = (ET.one (.sl grantE)).enc a := ET.v_a _ _
  show [((ET.one (.sl roleE)).v r).a,((ET.one (.sl grantE)).v a).a,A.str n] = _
  rw [q2,q3]
  rfl
 have e2 : resA (roC vg ro un ct) (ys,cd) = ([.sl 3 (ys.map grantE.enc),.int .i64 cd],[]) := by
  have q : ((ET.one (.sl grantE)).v ys).a = (ET.one (.sl grantE)).enc ys := ET.v_a _ _
  exact congrArg (fun z => (([z,A.int .i64 cd] : List A),([] : List A))) q
 have e3 := congrArg (fun z => CallOk P φ g z (resA (roC vg ro un ct) (ys,cd)).1 (resA (roC vg ro un ct) (ys,cd)).2) e1
 refine e3.mpr ?_
 rw [e2]
 refine CallOk.of_news' rfl fun w K vs hr hK hG => ?_
 cases hr with
 | cons v _ vs _ hv t =>
 cases t with
 | cons v2 _ vs2 _ hv2 t2 =>
 cases t2 with
 | cons v3 _ vs3 _ hv3 t3 =>
 cases t3; cases hv3
 have := L.run φ gv gr gu gc vg ro un ct h2 h3 h4 h5 ov or ou oc r a n ys cd hy w K v v2 hv hv2 hK hG
 rw [h1]
 exact this.mono fun e w' ⟨ad,m,cp,q1,q2,q3⟩ => ⟨[.slice ad m cp,.int .i64 cd],q1,q2,.cons _ _ _ _ q3 (.cons _ _ _ _ (.int _ _) .nil)⟩
end
end Go.Ab
