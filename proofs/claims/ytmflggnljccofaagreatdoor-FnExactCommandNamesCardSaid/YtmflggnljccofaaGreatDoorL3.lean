/- Symbolic runs with typed data and their soundness. Conditions: none. -/
import Derived.Test.YtmflggnljccofaaGreatDoorL9
import Derived.WalkKit
import Derived.ProofKit
import Derived.OpenShut
import Derived.Deep.Slices
import Derived.WideKeyArgs
import Derived.KernelRfl
set_option linter.unusedVariables false
set_option linter.unusedSimpArgs false
namespace Go.Ab
section
variable {P : Program} {φ : Nat → Nat} {w0 : World} {L : Lent} {E E' : Env} {st st' : St} {ev : Nat → Value} {w w' : World} {a : Act} {K : Nat → Prop} {r : Nat → Option Root}
theorem SimE.freshLess (h : SimE φ w0 L E st ev w) {ns : List Nat} {b : Nat} (hf : Fresh w0 L E st ev w b) : Fresh w0 L E { st with r := Ab.less st.r ns } ev w b :=
 ⟨hf.z,fun q b' o a1 a2 => hf.r q b' o (by
   simp only [Ab.less] at a1
   split at a1
   ·cases a1
   ·exact a1) a2,hf.t⟩
theorem SimE.lessOf (h : SimE φ w0 L E st ev w) (ns : List Nat) : SimE φ w0 L E { st with r := Ab.less st.r ns } ev w :=
 h.less fun q R hq => by
  simp only [Ab.less] at hq
  split at hq
  ·cases hq
  ·exact hq
theorem SimE.freshOf (h : SimE φ w0 L E st ev w) {ns : List Nat} {b p o : Nat} (hp : p ∈ ns) (hl : (st.r p).isSome = true) (hρ : E.ρ p = some (b,o)) : Fresh w0 L E { st with r := Ab.less st.r ns } ev w b :=
 ⟨h.rz p b o hl hρ,fun q b' o' a1 a2 e => by
   simp only [Ab.less] at a1
   split at a1
   ·cases a1
   ·rename_i hn
    subst e
    exact h.inj q p b' o' b' o a1 hl a2 hρ (fun e => hn (by simpa [e] using hp)) rfl,fun i k b' ht e => (h.tz i k b' ht).2 p b o hl hρ e.symm⟩
theorem tk_toks {v : Value} {x : A} {k b : Nat} (h : Tk v x k b) : k ∈ toksOf x := by
 cases h with
 | one _ _ _ _ h => cases h; simp [toksOf,tokOf1]
 | tup vs xs j k b v a hv ha h => cases h; exact List.mem_flatMap.2 ⟨_,List.mem_of_getElem? ha,by simp [tokOf1]⟩
 | agg vs xs j k b v a hv ha h => cases h; exact List.mem_flatMap.2 ⟨_,List.mem_of_getElem? ha,by simp [tokOf1]⟩
theorem sub_roots {q : Nat} : ∀ {xs : List A} {vs : List Value} {c : Nat},vs.length = xs.length → (∀ (j : Nat) (v : Value) (x : A),vs[j]? = some v → xs[j]? = some x → CellOk φ E r w q (c + j) v x) →
 (xs.flatMap rootOf1).Nodup ∧ ∀ p ∈ xs.flatMap rootOf1,∃ c',c ≤ c' ∧ c' < 1000 ∧ p = sub q c'
 | [],vs,c,_,_ => ⟨List.nodup_nil,fun p hp => by cases hp⟩
 | x :: xs,[],c,hl,_ => by simp at hl
 | x :: xs,v :: vs,c,hl,hc => by
   obtain ⟨h1,h2⟩ := sub_roots (c := c + 1) (xs := xs) (vs := vs) (by simpa using hl) (fun j u y hu hy => by
    have := hc (j + 1) u y (by simpa using hu) (by simpa using hy)
    rwa [show c + (j + 1) = c + 1 + j from by omega] at this)
   have h0 := hc 0 v x rfl rfl
   have hx : rootOf1 x = [] ∨ (rootOf1 x = [sub q c] ∧ c < 1000) := by
    cases h0 with
    | data _ hr => cases hr <;> exact .inl rfl
    | any => exact .inl rfl
    | view off n hlt => exact .inr ⟨rfl,hlt⟩
   rw [List.flatMap_cons]
   rcases hx with hx | ⟨hx,hlt⟩
   ·rw [hx]
    exact ⟨h1,fun p hp => by obtain ⟨c',a1,a2,a3⟩ := h2 p hp; exact ⟨c',by omega,a2,a3⟩⟩
   ·rw [hx]
    refine ⟨List.nodup_cons.2 ⟨fun hm => ?_,h1⟩,fun p hp => ?_⟩
    ·obtain ⟨c',a1,a2,a3⟩ := h2 _ hm
     have := (sub_inj hlt a2 a3).2; omega
    ·rcases List.mem_cons.1 hp with rfl | hp
     ·exact ⟨c,Nat.le_refl _,hlt,rfl⟩
     ·obtain ⟨c',a1,a2,a3⟩ := h2 p hp; exact ⟨c',by omega,a2,a3⟩
theorem names_nodup {q : Nat} {xs : List A} {vs : List Value} (hq : q < 1000) (hl : vs.length = xs.length) (hc : ∀ (j : Nat) (v : Value) (x : A),vs[j]? = some v → xs[j]? = some x → CellOk φ E r w q j v x) :
 (q :: xs.flatMap rootOf1).Nodup := by
 obtain ⟨h1,h2⟩ := sub_roots (c := 0) hl (fun j v x hv hx => by rw [Nat.zero_add]; exact hc j v x hv hx)
 refine List.nodup_cons.2 ⟨fun hm => ?_,h1⟩
 obtain ⟨c',_,_,e⟩ := h2 q hm
 have := sub_ge q c'
 omega
theorem OwnRep.mono {K' : Nat → Prop} (hk : ∀ b,K b → K' b) {v : Value} {z : Nat} {xs : List A} {ob : Option Nat} (h : OwnRep φ w K v z xs ob) : OwnRep φ w K' v z xs ob := by
 cases h with
 | empty => exact .empty _ _
 | mk b o cap z xs vs hc h0 hz h hv hr => exact .mk b o cap z xs vs hc h0 hz (h.mono (fun _ _ => rfl) hk) hv hr
theorem CellReps.mono {K' : Nat → Prop} (hk : ∀ b,K b → K' b) : ∀ {vs : List Value} {xs : List A} {bs : List Nat},CellReps φ w K vs xs bs → CellReps φ w K' vs xs bs
 | _,_,_,.nil => .nil
 | _,_,_,.cons v x ob vs xs bs h t => by
   refine .cons v x ob vs xs bs ?_ (t.mono hk)
   cases h with
   | data _ h ha => exact .data _ _ (h.mono (fun _ _ => rfl) hk) ha
   | own _ _ _ h => exact .own _ _ _ _ (h.mono hk)
theorem BoxRep.mono {K' : Nat → Prop} (hk : ∀ b,K b → K' b) {v : Value} {z : Nat} {x : A} {bs : List Nat} (h : BoxRep φ w K v z x bs) : BoxRep φ w K' v z x bs := by
 cases h with
 | mk b o z x vs bs h hv hr hz => exact .mk b o z x vs bs (h.mono hk) hv hr hz
theorem ResRep.mono {K' : Nat → Prop} (hk : ∀ b,K b → K' b) {v : Value} {x : A} {rb : List Nat} (h : ResRep φ w K v x rb) : ResRep φ w K' v x rb := by
 cases h with
 | data _ h => exact .data _ _ (h.mono (fun _ _ => rfl) hk)
 | tok _ _ _ ob h hp => exact .tok _ _ _ _ ob (h.mono hk) hp
 | iob _ _ _ h => exact .iob _ _ _ _ (h.mono hk)
theorem leave1_ok (h : SimE φ w0 L E st ev w) {j : Nat} {own : Bool} {x : A} {st1 : St} (hl : st.leave1 j own = some (x,st1)) :
 ∃ E1 rb,SimE φ w0 L E1 st1 ev w ∧ ResRep φ w E1.ok (ev (gs + j)) x rb ∧ rb.Nodup ∧ (∀ b ∈ rb,Fresh w0 L E1 st1 ev w b) ∧ (∀ b,E.ok b → E1.ok b) ∧ (∀ b,Fresh w0 L E st ev w b → Fresh w0 L E1 st1 ev w b ∧ b ∉ rb) ∧
   (∀ b,E1.ok b → E.ok b ∨ b < w.heap.size) := by
 have hs := h.slots (gs + j)
 unfold St.leave1 at hl
 split at hl
 ·split at hl
  ·
   rename_i k z xs hx
   rw [hx] at hs
   split at hl
   ·rename_i hp
    simp only [Option.some.injEq,Prod.mk.injEq] at hl
    obtain ⟨rfl,rfl⟩ := hl
    have hkt := h.killTok k
    have hfr : ∀ b,Fresh w0 L E st ev w b → Fresh w0 L E (st.killTok k) ev w b := fun b hf => ⟨hf.z,hf.r,fun i k' b' ht => hf.t i k' b' (Tk.comps (fd_killTok k) ht).1⟩
    have htk : ∀ k' b,Tk (ev (gs + j)) (.tok k z xs) k' b → Tk (ev (gs + j)) (st.t (gs + j)) k' b := fun k' b ht => by rw [hx]; exact ht
    generalize hv : ev (gs + j) = v at hs htk
    cases hs.tok_inv with
    | data _ _ hh => cases hh
    | tokE ad => exact ⟨E,[],hkt,.tok _ j z [] none (.empty ad z) hp,List.nodup_nil,(fun b hb => by cases hb),(fun _ hb => hb),(fun b hf => ⟨hfr b hf,by simp⟩),(fun b hb => .inl hb)⟩
    | tok b o cap _ _ _ vs hcc h0 hz hh hv' hrm =>
      have hi : Tk (ev (gs + j)) (st.t (gs + j)) k b := by rw [hv]; exact htk k b (.one _ _ _ _ (.mk ⟨b,o,none⟩ _ _ _ _ _ h0))
      have hf0 := h.tz (gs + j) k b hi
      refine ⟨E,[b],hkt,.tok _ j z xs (some b) (.mk b o cap z xs vs hcc h0 hz hh hv' hrm) hp,by simp,fun b' hb => ?_,fun _ hb => hb,fun b' hf => ⟨hfr b' hf,fun hm => ?_⟩,fun b hb => .inl hb⟩
      ·rw [List.mem_singleton] at hb; subst hb
       exact ⟨hf0.1,hf0.2,fun i k' b2 ht => by
        have h3 := Tk.comps (fd_killTok k) ht
        exact h.td i (gs + j) k' k b2 b' h3.1 hi h3.2⟩
      ·rw [List.mem_singleton] at hm; subst hm
       exact hf.t (gs + j) k b' hi rfl
   ·cases hl
  ·rename_i z hx
   rw [hx] at hs
   simp only [Option.some.injEq,Prod.mk.injEq] at hl
   obtain ⟨rfl,rfl⟩ := hl
   exact ⟨E,[],h,.tok _ j z [] none (by rw [hs.nils_inv]; exact .empty none z) rfl,List.nodup_nil,(fun b hb => by cases hb),(fun _ hb => hb),(fun b hf => ⟨hf,by simp⟩),(fun b hb => .inl hb)⟩
  ·rename_i q off n hx
   rw [hx] at hs
   obtain ⟨R,hR,hl⟩ := Option.bind_eq_some_iff.1 hl
   split at hl
   ·rename_i hp
    simp only [Option.some.injEq,Prod.mk.injEq] at hl
    obtain ⟨rfl,rfl⟩ := hl
    obtain ⟨ob,ho,hρ⟩ := view_own (h.roots q R hR) hR hs.view_inv
    refine ⟨E,ob.toList,h.lessOf [q],.tok _ j R.z _ ob ho hp,by cases ob <;> simp,fun b hb => ?_,fun _ hb => hb,fun b hf => ⟨h.freshLess hf,fun hm => ?_⟩,fun b hb => .inl hb⟩
    ·cases ob with
     | none => simp at hb
     | some b1 =>
       simp at hb; subst hb
       obtain ⟨o,hρ'⟩ := hρ b rfl
       exact h.freshOf (p := q) (by simp) (by rw [hR]; rfl) hρ'
    ·cases ob with
     | none => simp at hm
     | some b1 =>
       simp at hm; subst hm
       obtain ⟨o,hρ'⟩ := hρ b rfl
       exact hf.r q b o (by rw [hR]; rfl) hρ' rfl
   ·cases hl
  ·rename_i q hx
   rw [hx] at hs
   obtain ⟨R,hR,hl⟩ := Option.bind_eq_some_iff.1 hl
   split at hl
   ·rename_i e hb hxs
    obtain ⟨cs,hcs,hl⟩ := Option.map_eq_some_iff.1 hl
    simp only [Prod.mk.injEq] at hl
    obtain ⟨rfl,rfl⟩ := hl
    obtain ⟨Rb,Rz,Rxs⟩ := R
    simp only at hb hxs
    subst hb; subst hxs
    obtain ⟨b,o,hρ,hve⟩ := hs.loc_inv.loc_at hR
    rw [hve]
    cases h.roots _ _ hR with
    | box b1 o1 z _ us hρ1 hz hlt hlen hcells hcl hrm =>
      rw [hρ] at hρ1; cases hρ1
      obtain ⟨bs1,h4,h5,h6⟩ := lends_reps h (c := 0) hlen (fun j v x hv hx => by have := hcells j v x hv hx; rwa [Nat.zero_add]) hcs
      have hna : ∀ y ∈ cs,∀ l,y ≠ .agg l := fun y hy => by
       obtain ⟨c,hc⟩ := List.mem_iff_getElem?.1 hy
       have hcl : c < us.length := by
        rcases Nat.lt_or_ge c cs.length with h | h
        ·omega
        ·simp [List.getElem?_eq_none h] at hc
       obtain ⟨b',hb'⟩ := h4.get (j := c) (v := us[c]) (by simp) hc
       exact hb'.nagg
      have hrc : (reCell e cs).cells = cs := reCell_cells h6 hna
      have hbox : BoxRep φ w E.ok (.pointer (some ⟨b,o,none⟩)) Rz (reCell e cs) (b :: bs1) := .mk b o Rz _ us bs1 (by rw [hrc]; exact h4) hcl hrm (by rw [hrc,h6,hz])
      have hnb : NB E st (b :: bs1) (q :: e.cells.flatMap rootOf1) := (NB.one (by rw [hR]; rfl) hρ).append h h5
      have hnn : (q :: e.cells.flatMap rootOf1).Nodup := names_nodup hlt hlen hcells
      refine ⟨E,b :: bs1,h.lessOf _,by simpa using ResRep.iob _ _ _ _ hbox,hnb.2 hnn,fun b' hb' => ?_,fun _ hb => hb,fun b' hf => ⟨h.freshLess hf,fun hm => ?_⟩,fun b hb => .inl hb⟩
      ·obtain ⟨p,hp,hlv,o',hρ'⟩ := hnb.1 b' hb'
       exact h.freshOf hp hlv hρ'
      ·obtain ⟨p,hp,hlv,o',hρ'⟩ := hnb.1 b' hm
       exact hf.r p b' o' hlv hρ' rfl
   ·cases hl
  ·cases hl
 ·
  obtain ⟨y,hy,hl⟩ := Option.map_eq_some_iff.1 hl
  simp only [Prod.mk.injEq] at hl
  obtain ⟨rfl,rfl⟩ := hl
  generalize hns : names st.r (st.t (gs + j)) = ns at hy
  generalize hks : toksOf (st.t (gs + j)) = ks
  have hr : ∀ q R,Ab.less st.r ns q = some R → st.r q = some R ∧ ¬ q ∈ ns := fun q R hq => by
   simp only [Ab.less] at hq
   split at hq
   ·cases hq
   ·rename_i hn; exact ⟨hq,by simpa using hn⟩
  have hE := h.giveUp (N := (· ∈ ns)) (T := (· ∈ ks)) (ok' := fun b => E.ok b ∨ (∃ q o,q ∈ ns ∧ (st.r q).isSome ∧ E.ρ q = some (b,o)) ∨ (∃ i k,k ∈ ks ∧ Tk (ev i) (st.t i) k b)) (ev' := ev)
   (st' := { t := fun i => comps (dropTok1 ks) (st.t i),r := Ab.less st.r ns }) (fun b hb => .inl hb) (fun b hb => hb) hr (fun i => (h.slots i).comps (fd_dropTok ks).nt fun v x hx => by
     unfold dropTok1
     split
     ·split
      ·exact .any _
      ·exact RV1.weak (E' := ⟨_,E.ρ⟩) (fun b hb => Or.inl hb) (fun q R hq => ⟨(hr q R hq).1,rfl⟩) hx
     ·exact RV1.weak (E' := ⟨_,E.ρ⟩) (fun b hb => Or.inl hb) (fun q R hq => ⟨(hr q R hq).1,rfl⟩) hx) (fun i k b ht => ⟨(Tk.comps (fd_dropTok ks) ht).2,i,(Tk.comps (fd_dropTok ks) ht).1⟩)
  have hro : ∀ q R,only st.r ns q = some R → st.r q = some R ∧ q ∈ ns := fun q R hq => by
   simp only [Ab.only] at hq
   split at hq
   ·rename_i hn; exact ⟨hq,by simpa using hn⟩
   ·cases hq
  have hO : SimE φ w0 L E { st with r := only st.r ns } ev w := h.less fun q R hq => (hro q R hq).1
  have hrep := toData_rep (K := fun b => E.ok b ∨ (∃ q o,q ∈ ns ∧ (st.r q).isSome ∧ E.ρ q = some (b,o)) ∨ (∃ i k,k ∈ ks ∧ Tk (ev i) (st.t i) k b)) hO ⟨fun b hb => .inl hb,fun q b o h1 h2 => by
   obtain ⟨R,hR⟩ := Option.isSome_iff_exists.1 h1
   exact .inr (.inl ⟨q,o,(hro q R hR).2,by rw [(hro q R hR).1]; rfl,h2⟩)⟩ (hO.slots (gs + j)) (fun k b ht => .inr (.inr ⟨gs + j,k,by rw [← hks]; exact tk_toks ht,ht⟩)) hy
  refine ⟨_,[],hE,.data _ _ hrep,List.nodup_nil,(fun b hb => by cases hb),(fun b hb => .inl hb),fun b hf => ⟨⟨⟨fun hk => ?_,hf.z.2⟩,fun q b' o a1 a2 => ?_,fun i k b' ht => hf.t i k b' (Tk.comps (fd_dropTok ks) ht).1⟩,by simp⟩,fun b hb => .inr ?_⟩
  ·rcases hk with h1 | ⟨q,o,_,h2,h3⟩ | ⟨i,k,_,h2⟩
   ·exact hf.z.1 h1
   ·exact hf.r q b o h2 h3 rfl
   ·exact hf.t i k b h2 rfl
  ·obtain ⟨R,hR⟩ := Option.isSome_iff_exists.1 a1
   exact hf.r q b' o (by rw [(hr q R hR).1]; rfl) a2
  ·exact hE.okz b hb
end
end Go.Ab
namespace Go.Ab
section
variable {P : Program} {φ : Nat → Nat} {w0 : World} {L : Lent} {E E' : Env} {st st' : St} {ev : Nat → Value} {w w' : World} {a : Act} {K : Nat → Prop} {r : Nat → Option Root}
theorem leaves_ok : ∀ {bs : List Bool} {j : Nat} {E : Env} {st : St} {xs : List A} {st1 : St} {vs : List Value},SimE φ w0 L E st ev w → vs.length = bs.length → (∀ i v,vs[i]? = some v → ev (gs + (j + i)) = v) → st.leaves j bs = some (xs,st1) →
 ∃ E1 rb,SimE φ w0 L E1 st1 ev w ∧ ResReps φ w E1.ok vs xs rb ∧ rb.Nodup ∧ (∀ b ∈ rb,Fresh w0 L E1 st1 ev w b) ∧ (∀ b,E.ok b → E1.ok b) ∧ (∀ b,Fresh w0 L E st ev w b → Fresh w0 L E1 st1 ev w b ∧ b ∉ rb)
 | [],j,E,st,xs,st1,vs,h,hl,hev,he => by
   simp [St.leaves] at he
   obtain ⟨rfl,rfl⟩ := he
   obtain rfl : vs = [] := List.eq_nil_of_length_eq_zero (by simpa using hl)
   exact ⟨E,[],h,.nil,List.nodup_nil,(fun b hb => by cases hb),(fun _ hb => hb),fun b hf => ⟨hf,by simp⟩⟩
 | b0 :: bs,j,E,st,xs,st1,[],h,hl,hev,he => by simp at hl
 | b0 :: bs,j,E,st,xs,st1,v :: vs,h,hl,hev,he => by
   simp only [St.leaves] at he
   obtain ⟨⟨x,s⟩,hx,he⟩ := Option.bind_eq_some_iff.1 he
   obtain ⟨⟨xs',s2⟩,hxs,he⟩ := Option.map_eq_some_iff.1 he
   simp only [Prod.mk.injEq] at he
   obtain ⟨rfl,rfl⟩ := he
   obtain ⟨E1,rb1,h1,hr1,hn1,hf1,hok1,hm1,hz1⟩ := leave1_ok h hx
   obtain ⟨E2,rb2,h2,hr2,hn2,hf2,hok2,hm2⟩ := leaves_ok (j := j + 1) (vs := vs) h1 (by simpa using hl) (fun i u hu => by
    have := hev (i + 1) u (by simpa using hu)
    rwa [show j + (i + 1) = j + 1 + i from by omega] at this) hxs
   have hv : ev (gs + j) = v := by have := hev 0 v rfl; simpa using this
   rw [hv] at hr1
   have hr1' : ResRep φ w E2.ok v x rb1 := hr1.mono hok2
   refine ⟨E2,rb1 ++ rb2,h2,.cons _ _ _ _ _ _ hr1' hr2,List.nodup_append.2 ⟨hn1,hn2,fun b hb c hc e => ?_⟩,fun b hb => ?_,fun b hb => hok2 b (hok1 b hb),fun b hf => ⟨(hm2 b (hm1 b hf).1).1,fun hm => ?_⟩⟩
   ·subst e; exact (hm2 b (hf1 b hb)).2 hc
   ·rcases List.mem_append.1 hb with hb | hb
    ·exact (hm2 b (hf1 b hb)).1
    ·exact hf2 b hb
   ·rcases List.mem_append.1 hm with hm | hm
    ·exact (hm1 b hf).2 hm
    ·exact (hm2 b (hm1 b hf).1).2 hm
def chkRs (P : Program) : List ResultVar → List Rs → Bool
 | [],[] => true
 | .tmp t :: l,.t i :: m => t == i && chkRs P l m
 | .cell t ty :: l,.cell i n :: m => t == i && cellN P ty n && chkRs P l m
 | _,_ => false
def resSem (tmps : Array Value) : ResultVar → Sem Value
 | .tmp t => Pure.pure (tmps.getD t undef)
 | .cell a t => do loadVar t (← asAddr (tmps.getD a undef))
theorem rsAll_ok (h : Sim φ w0 L E st a w) : ∀ {l : List ResultVar} {m : List Rs} {as : List A},chkRs P l m = true → rsAll st m = some as →
 ∃ rvs,(l.mapM (resSem a.tmps)).run P w = .ok rvs w ∧ All2 (fun v x => RV φ E st.r w v x ∧ ∀ k b,Tk v x k b → ∃ i,Tk (a.eval (.tmp i)) (st.t i) k b) rvs as
 | [],[],as,_,he => by simp [rsAll] at he; subst he; exact ⟨[],rfl,.nil⟩
 | .tmp t :: l,.t i :: m,as,hc,he => by
   simp only [chkRs,Bool.and_eq_true,beq_iff_eq] at hc
   obtain ⟨rfl,hc⟩ := hc
   simp only [rsAll,Rs.v,Option.bind_some] at he
   obtain ⟨as',he',rfl⟩ := Option.map_eq_some_iff.1 he
   obtain ⟨rvs,hr,hall⟩ := rsAll_ok h hc he'
   refine ⟨a.eval (.tmp t) :: rvs,?_,.cons ⟨h.slots t,fun k b ht => ⟨t,ht⟩⟩ hall⟩
   simp only [List.mapM_cons,resSem,Sem.run_bind,Sem.run_pure,Result.andThen_ok,hr]
   rfl
 | .cell t ty :: l,.cell i n :: m,as,hc,he => by
   simp only [chkRs,Bool.and_eq_true,beq_iff_eq] at hc
   obtain ⟨⟨rfl,hcn⟩,hc⟩ := hc
   simp only [rsAll] at he
   obtain ⟨x,hx,he⟩ := Option.bind_eq_some_iff.1 he
   obtain ⟨as',he',rfl⟩ := Option.map_eq_some_iff.1 he
   obtain ⟨rvs,hr,hall⟩ := rsAll_ok h hc he'
   have hx' : (match (Opd.t t).v st with
    | .loc q i c => (st.r q).bind fun R => (R.xs[i]?).bind fun x => getCells x.cells c n
    | .ptr cs c => getCells cs c n
    | _ => none) = some x := by
     simp only [Rs.v] at hx
     simp only [Opd.v]
     split at hx
     ·rename_i q j c e; rw [e]; exact hx
     ·cases hx
   obtain ⟨v,hv,hrv,hcp⟩ := val_ld (P := P) (p := .tmp t) (p' := .t t) h (by simp [chkOpd]) hcn hx'
   have hload : (do loadVar ty (← asAddr (a.tmps.getD t undef)) : Sem Value).run P w = .ok v w := by
    simp only [Rs.v] at hx
    split at hx
    ·rename_i q j c e
     obtain ⟨R,hR,hx⟩ := Option.bind_eq_some_iff.1 hx
     have hs := h.slots t
     rw [e] at hs
     obtain ⟨b,o,_,he⟩ := hs.loc_inv.loc_at hR
     simp only [Act.eval] at he hv
     rw [he] at hv ⊢
     simpa [Instr.loadAt,Instr.sureAddr,asAddr] using hv
    ·cases hx
   refine ⟨v :: rvs,?_,.cons ⟨hrv,hcp⟩ hall⟩
   simp only [List.mapM_cons,resSem,Sem.run_bind] at hload ⊢
   simp only [hload,Result.andThen_ok,hr,Sem.run_pure]
 | [],_ :: _,_,h,_ => by simp [chkRs] at h
 | .tmp _ :: _,[],_,h,_ => by simp [chkRs] at h
 | .cell _ _ :: _,[],_,h,_ => by simp [chkRs] at h
 | .tmp _ :: _,.cell _ _ :: _,_,h,_ => by simp [chkRs] at h
 | .cell _ _ :: _,.t _ :: _,_,h,_ => by simp [chkRs] at h
theorem results_run {mf : Func} {tmps : Array Value} {rvs : List Value} (h : (mf.results.toList.mapM (resSem tmps)).run P w = .ok rvs w) : (results mf tmps).run P w = .ok (packV rvs) w := by
 have key : ∀ f : ResultVar → Sem Value,f = resSem tmps → (do let vs ← mf.results.mapM f; Pure.pure (if h : vs.size = 1 then vs[0] else .tuple vs) : Sem Value).run P w = .ok (packV rvs) w := by
  intro f hf
  subst hf
  rw [Array.mapM_eq_mapM_toList]
  simp only [Sem.run_bind,Sem.run_map]
  rw [h]
  simp only [Result.andThen_ok,Sem.run_pure]
  congr 1
  match rvs with
  | [] => rfl
  | [v] => rfl
  | v :: u :: l => simp [packV]
 exact key _ (funext fun x => by cases x <;> rfl)
theorem outs_ok (h : SimE φ w0 L E st ev w) (hK : ∀ b,K b → E.ok b) : ∀ {as os : List A} {vs : List Value} {i : Nat} {bs : List Nat},ArgReps φ w0 K vs as bs →
 (∀ j v x,vs[j]? = some v → as[j]? = some x → L.pl (i + j) = if i + j < 1000 then place v x else none) → outs st i as = some os →
 ∃ ob ns,OutReps φ w E.ok vs as os ob ∧ NB E st ob ns ∧ ns.Nodup ∧ ∀ p ∈ ns,∃ j,i ≤ j ∧ j < 1000 ∧ (p = j ∨ ∃ c,c < 1000 ∧ p = sub j c)
 | [],os,vs,i,bs,ha,_,he => by
   simp [outs] at he; subst he
   cases ha
   exact ⟨[],[],.nil,NB.nil,List.nodup_nil,fun p hp => by cases hp⟩
 | x :: as,os,vs,i,bs,ha,hpl,he => by
   cases ha with
   | cons v _ b0 vs _ bs0 h0 t =>
     have hpl' : ∀ j u y,vs[j]? = some u → as[j]? = some y → L.pl (i + 1 + j) = if i + 1 + j < 1000 then place u y else none := fun j u y hu hy => by
      have := hpl (j + 1) u y (by simpa using hu) (by simpa using hy)
      rwa [show i + (j + 1) = i + 1 + j from by omega] at this
     have hp0 : L.pl i = if i < 1000 then place v x else none := by have := hpl 0 v x rfl rfl; simpa using this
     have sep : ∀ {ms : List Nat} {n1 : List Nat},i < 1000 → n1.Nodup → (∀ p ∈ n1,p = i ∨ ∃ c,c < 1000 ∧ p = sub i c) → ms.Nodup → (∀ p ∈ ms,∃ j,i + 1 ≤ j ∧ j < 1000 ∧ (p = j ∨ ∃ c,c < 1000 ∧ p = sub j c)) →
      (n1 ++ ms).Nodup ∧ ∀ p ∈ n1 ++ ms,∃ j,i ≤ j ∧ j < 1000 ∧ (p = j ∨ ∃ c,c < 1000 ∧ p = sub j c) := by
      intro ms n1 hi a1 a2 a3 a4
      refine ⟨List.nodup_append.2 ⟨a1,a3,fun p hp q hq e => ?_⟩,fun p hp => ?_⟩
      ·subst e
       obtain ⟨j,b1,b2,b3⟩ := a4 p hq
       rcases a2 p hp with c1 | ⟨c,c1,c2⟩ <;> rcases b3 with d1 | ⟨d,d1,d2⟩
       ·omega
       ·have := sub_ge j d; omega
       ·have := sub_ge i c; omega
       ·have := (sub_inj c1 d1 (c2.symm.trans d2)).1; omega
      ·rcases List.mem_append.1 hp with hp | hp
       ·exact ⟨i,Nat.le_refl _,hi,a2 p hp⟩
       ·obtain ⟨j,b1,b2,b3⟩ := a4 p hp; exact ⟨j,by omega,b2,b3⟩
     cases h0 with
     | data _ hr =>
       have hp : outs st i (x :: as) = outs st (i + 1) as := by cases hr <;> rfl
       rw [hp] at he
       obtain ⟨ob,ns,h1,h2,h3,h4⟩ := outs_ok h hK t hpl' he
       refine ⟨ob,ns,.data _ _ _ _ _ _ ⟨fun z xs e => ?_,fun z xs e => ?_⟩ h1,h2,h3,fun p hp => ?_⟩
       ·subst e; cases hr
       ·subst e; cases hr
       ·obtain ⟨j,b1,b2,b3⟩ := h4 p hp; exact ⟨j,by omega,b2,b3⟩
     | iob z y _ hb =>
       simp only [outs] at he
       obtain ⟨R,hR,he⟩ := Option.bind_eq_some_iff.1 he
       split at he
       ·rename_i e hRb hRx
        split at he
        ·rename_i hcond
         obtain ⟨hz,hi⟩ := hcond
         obtain ⟨cs,hcs,he⟩ := Option.bind_eq_some_iff.1 he
         obtain ⟨os',hos,rfl⟩ := Option.map_eq_some_iff.1 he
         obtain ⟨Rb,Rz,Rxs⟩ := R
         simp only at hRb hRx hz
         subst hRb; subst hRx; subst hz
         obtain ⟨ob,ns,h1,h2,h3,h4⟩ := outs_ok h hK t hpl' hos
         cases hb with
         | mk b o _ _ us bs1 hcr hcl hrm hz =>
           rw [if_pos hi] at hp0
           have hρ := h.lent i (b,o) hp0 (by rw [hR]; rfl)
           cases h.roots _ _ hR with
           | box b1 o1 z1 _ us1 hρ1 hz1 hlt hlen hcells hcl1 hrm1 =>
             rw [hρ] at hρ1; cases hρ1
             obtain ⟨bs2,g4,g5,g6⟩ := lends_reps h (c := 0) hlen (fun j v x hv hx => by have := hcells j v x hv hx; rwa [Nat.zero_add]) hcs
             have hna : ∀ y ∈ cs,∀ l,y ≠ .agg l := fun y hy => by
              obtain ⟨c,hc⟩ := List.mem_iff_getElem?.1 hy
              have hcl : c < us1.length := by
               rcases Nat.lt_or_ge c cs.length with h | h
               ·omega
               ·simp [List.getElem?_eq_none h] at hc
              obtain ⟨b',hb'⟩ := g4.get (j := c) (v := us1[c]) (by simp) hc
              exact hb'.nagg
             have hrc : (reCell e cs).cells = cs := reCell_cells g6 hna
             have hbox : BoxRep φ w E.ok (.pointer (some ⟨b,o,none⟩)) Rz (reCell e cs) (b :: bs2) := .mk b o Rz _ us1 bs2 (by rw [hrc]; exact g4) hcl1 hrm1 (by rw [hrc,g6,hz1])
             have hnb : NB E st (b :: bs2) (i :: e.cells.flatMap rootOf1) := (NB.one (by rw [hR]; rfl) hρ).append h g5
             obtain ⟨k1,k2⟩ := sub_roots (c := 0) hlen (fun j v x hv hx => by rw [Nat.zero_add]; exact hcells j v x hv hx)
             obtain ⟨m1,m2⟩ := sep hi (names_nodup hlt hlen hcells) (fun p hp => by
              rcases List.mem_cons.1 hp with rfl | hp
              ·exact .inl rfl
              ·obtain ⟨c,_,c1,c2⟩ := k2 p hp; exact .inr ⟨c,c1,c2⟩) h3 h4
             exact ⟨(b :: bs2) ++ ob,_,.iob _ _ _ _ _ _ _ _ _ hbox h1,hnb.append h h2,m1,m2⟩
        ·cases he
       ·cases he
     | ios z xs ob1 ho =>
       simp only [outs] at he
       split at he
       ·obtain ⟨os',hos,rfl⟩ := Option.map_eq_some_iff.1 he
        obtain ⟨ob,ns,h1,h2,h3,h4⟩ := outs_ok h hK t hpl' hos
        exact ⟨ob,ns,.gone _ _ _ _ _ _ _ h1,h2,h3,fun p hp => by obtain ⟨j,b1,b2,b3⟩ := h4 p hp; exact ⟨j,by omega,b2,b3⟩⟩
       rename_i R hR
       split at he
       ·rename_i hcond
        obtain ⟨hz,hlx,hRb,hi⟩ := hcond
        obtain ⟨os',hos,rfl⟩ := Option.map_eq_some_iff.1 he
        obtain ⟨Rb,Rz,Rxs⟩ := R
        simp only at hRb hz hlx
        subst hRb; subst hz
        obtain ⟨ob,ns,h1,h2,h3,h4⟩ := outs_ok h hK t hpl' hos
        rw [if_pos hi] at hp0
        have hown : ∃ ob2,OwnRep φ w E.ok v Rz Rxs ob2 ∧ ∀ b,ob2 = some b → ∃ o,E.ρ i = some (b,o) := by
         cases ho with
         | empty ad z =>
           obtain rfl : Rxs = [] := List.eq_nil_of_length_eq_zero (by simpa using hlx)
           exact ⟨none,.empty _ _,fun b e => by cases e⟩
         | mk b o cap z xs us hc hc0 hz hh hv hr =>
           have hρ := h.lent i (b,o) (by rw [hp0]; simp [place,hc0]) (by rw [hR]; rfl)
           cases h.roots _ _ hR with
           | empty z1 h1 => rw [hρ] at h1; cases h1
           | sl b1 o1 z1 _ us1 hρ1 hz1 hh1 hv1 hr1 =>
             rw [hρ] at hρ1; cases hρ1
             have := OwnRep.mk (φ := φ) (w := w) (K := E.ok) b o cap Rz Rxs us1 (by omega) hc0 hz1 hh1 hv1 (h.room _ _ hr)
             rw [hlx] at this
             exact ⟨some b,this,fun b' e => by cases e; exact ⟨o,hρ⟩⟩
        obtain ⟨ob2,ho2,hρ2⟩ := hown
        have hnb : NB E st ob2.toList [i] := by
         cases ob2 with
         | none => exact NB.none _
         | some b => obtain ⟨o,hρ'⟩ := hρ2 b rfl; exact NB.one (by rw [hR]; rfl) hρ'
        obtain ⟨m1,m2⟩ := sep hi (n1 := [i]) (by simp) (fun p hp => .inl (by simpa using hp)) h3 h4
        exact ⟨ob2.toList ++ ob,_,.ios _ _ _ _ _ _ _ _ _ ho2 hlx h1,hnb.append h h2,m1,m2⟩
       ·cases he
end
end Go.Ab
namespace Go.Ab
structure ProgOk (P : Program) (φ : Nat → Nat) (M : Nat → Option Def) : Prop where
 ir : ∀ f fn,M f = some (.ir fn) → ∃ mf c,P.funcs[φ f]? = some mf ∧ mf.name ≠ "runtime.NumGoroutine" ∧ mf.body = some c ∧ chkCode P φ mf.ntmps fn.io fn.body c = true ∧ chkRs P mf.results.toList fn.res = true ∧ fn.np ≤ mf.ntmps
 prim : ∀ f io g,M f = some (.prim io g) → ∀ args res outs,g f args = some (res,outs) → Entered P (φ f) ∧ CallOk P φ f args res outs
section
variable {P : Program} {φ : Nat → Nat} {M : Nat → Option Def}
theorem callF_ok (hM : ProgOk P φ M) {ex : C → St → Option (Ex × St)} (hex : ExecOk P φ ex) : CfOk P φ (callF M ex) := by
 intro f args res outs he
 unfold callF at he
 split at he
 ·rename_i fn hf
  obtain ⟨mf,c,h1,h2,h3,h4,h5,h6⟩ := hM.ir f fn hf
  obtain ⟨st0,hen,he⟩ := Option.bind_eq_some_iff.1 he
  refine ⟨⟨mf,h1,h2,by rw [h3]; rfl⟩,fun w K vs bs ha hnd hKb hKz hGl => ?_⟩
  have hlen : vs.length = fn.np := by
   unfold Fn.enter at hen
   split at hen
   ·rename_i hc; rw [ha.length]; exact hc.1
   ·cases hen
  have hlo : lentOk fn.io args = true := by
   unfold Fn.enter at hen
   split at hen
   ·rename_i hc; exact hc.2
   ·cases hen
  obtain ⟨E,hS,hok⟩ := enter_ok (n := mf.ntmps) ha hnd hKb hKz hen
  have fin : ∀ {e : Ex} {st : St},ex fn.body st0 = some (e,st) → fn.leave args st = some (res,outs) → (e = .ret ∨ e = .normal) →
   Calls P (φ f) vs.toArray w fun e w' => ∃ v,e = .returned v ∧ Back φ w K vs args res outs bs v w' := by
   intro e st hx hl hee
   refine calls_of_wp h1 h3 ?_
   have hsz : (vs.toArray ++ Array.replicate (mf.ntmps - vs.toArray.size) undef).size = mf.ntmps := by simp; omega
   refine hex fn.body c mf.ntmps fn.io h4 w (lentOf K vs args bs) (fun i p hp => ?_) ⟨hGl,fun b hb => ⟨hKz b hb,fun hm => hKb b hm hb⟩⟩ E st0 { tmps := vs.toArray ++ Array.replicate (mf.ntmps - vs.toArray.size) undef,defers := [] } w e st (by simpa using hS) hsz hx _ fun E' a' w' hS' hn' => ?_
   ·simp only [lentOf] at hp
    split at hp
    ·split at hp
     ·rename_i v x hv hx'; exact lentOk_at hlo hx' (place_lent hp)
     ·cases hp
    ·cases hp
   ·have key : a'.defers = [] ∧ ∃ v,(results mf a'.tmps).run P w' = .ok v w' ∧ ∃ v',Ending.returned v = .returned v' ∧ Back φ w K vs args res outs bs v' w' := by
     unfold Fn.leave at hl
     split at hl
     ·rename_i hlr
      obtain ⟨as,has,hl⟩ := Option.bind_eq_some_iff.1 hl
      obtain ⟨⟨rs,st1⟩,hrs,hl⟩ := Option.bind_eq_some_iff.1 hl
      obtain ⟨os,hos,hl⟩ := Option.map_eq_some_iff.1 hl
      simp only [Prod.mk.injEq] at hl
      obtain ⟨rfl,rfl⟩ := hl
      obtain ⟨rvs,hrun,hall⟩ := rsAll_ok hS' h5 has
      have hlay := hS'.toSimE.lay hall
      have hrl : rvs.length = fn.own.length := by
       have hm : ∀ {m : List Rs} {as : List A},rsAll st m = some as → as.length = m.length := by
        intro m
        induction m with
        | nil => intro as h; simp [rsAll] at h; subst h; rfl
        | cons r m ih =>
          intro as h
          simp only [rsAll] at h
          obtain ⟨x,_,h⟩ := Option.bind_eq_some_iff.1 h
          obtain ⟨l,hl,rfl⟩ := Option.map_eq_some_iff.1 h
          simp [ih hl]
       rw [hall.1,hm has,hlr]
      obtain ⟨E2,rb,hS2,hres,hnb,hfb,hok2,_⟩ := leaves_ok (vs := rvs) hlay hrl (fun i v hv => by
       simp only [evL]
       rw [if_pos (by omega),show gs + (0 + i) - gs = i from by omega,hv]; rfl) hrs
      have hKu : ∀ b,K b → E2.ok b := fun b hb => hok2 b (hS'.okU b hb)
      have hS3 : SimE φ w (lentOf K vs args bs) E2 { st1 with r := Ab.less st1.r fn.gone } _ w' := hS2.lessOf fn.gone
      obtain ⟨ob,ns,hout,hnbo,hns,_⟩ := outs_ok hS3 hKu ha (i := 0) (fun j v x hv hx => by simp only [lentOf,Nat.zero_add,hv,hx]) hos
      have hob : ∀ b ∈ ob,(¬ E2.ok b ∧ Zone w (lentOf K vs args bs) b ∧ b < w'.heap.size) ∧ b ∉ rb := fun b hb => by
       obtain ⟨p,_,hlv,o,hρ⟩ := hnbo.1 b hb
       have hlv2 : (st1.r p).isSome = true := by
        simp only [Ab.less] at hlv
        split at hlv
        ·cases hlv
        ·exact hlv
       exact ⟨hS2.rz p b o hlv2 hρ,fun hm => (hfb b hm).r p b o hlv2 hρ rfl⟩
      refine ⟨hS'.nodef,packV rvs,results_run hrun,packV rvs,rfl,⟨hS2.grow,fun b hb hn => hS2.frame b hb hn,hS2.env,hS2.fr,hS2.room,rvs,E2.ok,rb,ob,rfl,hKu,fun b hb => ?_,hres,hout,List.nodup_append.2 ⟨hnb,hnbo.2 hns,fun b hb c hc e => (hob c hc).2 (e ▸ hb)⟩,fun b hb => ?_⟩⟩
      ·rcases hS2.okL b hb with h7 | h7 | h7
       ·exact .inl h7
       ·exact .inr (.inr ⟨h7,hS2.okz b hb⟩)
       ·exact .inr (.inl h7)
      ·have hz : ¬ E2.ok b ∧ Zone w (lentOf K vs args bs) b ∧ b < w'.heap.size := by
        rcases List.mem_append.1 hb with hb | hb
        ·exact (hfb b hb).z
        ·exact (hob b hb).1
       exact ⟨hz.1,hz.2.2,hz.2.1.symm⟩
     ·cases hl
    rcases hee with rfl | rfl <;> exact ⟨key.1,key.2⟩
  split at he
  ·rename_i st hx; exact fin hx he (.inl rfl)
  ·rename_i st hx; exact fin hx he (.inr rfl)
  ·cases he
 ·rename_i io g hf
  exact hM.prim f io g hf args res outs he
 ·cases he
theorem all_ok (hm : P.follows .mixedOrders = true) (hM : ProgOk P φ M) : ∀ n,ExecOk P φ (exec M n) := by
 intro n
 induction n using Nat.strongRecOn with
 | _ n ih =>
   cases n with
   | zero => exact exec_zero M
   | succ n => exact exec_succ hm (fun k hk => ih k (by omega)) (callF_ok hM (ih n (by omega)))
end
end Go.Ab
namespace Go.Ab
mutual
inductive CT where
 | bool
 | int (k : IntKind)
 | str
 | sl (t : ET)
 | own (t : ET)
inductive ET where
 | one (c : CT)
 | agg (cs : CTs)
inductive CTs where
 | nil
 | cons (c : CT) (cs : CTs)
end
mutual
@[reducible] def CT.ty : CT → Type
  | .bool => Bool
  | .int _ => Int
  | .str => List UInt8
  | .sl t => List t.ty
  | .own t => List t.ty
@[reducible] def ET.ty : ET → Type
  | .one c => c.ty
  | .agg cs => cs.ty
@[reducible] def CTs.ty : CTs → Type
  | .nil => Unit
  | .cons c cs => c.ty × cs.ty
end
def CTs.len : CTs → Nat
 | .nil => 0
 | .cons _ cs => cs.len + 1
def ET.z : ET → Nat
 | .one _ => 1
 | .agg cs => cs.len
mutual
def CT.enc : (c : CT) → c.ty → A
 | .bool,b => .bool b
 | .int k,n => .int k n
 | .str,s => .str s
 | .sl t,xs => .sl t.z (xs.map t.enc)
 | .own t,xs => .own t.z (xs.map t.enc)
def ET.enc : (t : ET) → t.ty → A
 | .one c,x => c.enc x
 | .agg cs,x => .agg (cs.enc x)
def CTs.enc : (cs : CTs) → cs.ty → List A
 | .nil,_ => []
 | .cons c cs,x => c.enc x.1 :: cs.enc x.2
end
mutual
def CT.eq? : (a b : CT) → Option (PLift (a = b))
 | .bool,.bool => some ⟨rfl⟩
 | .int k,.int k' => if h : k = k' then some ⟨by rw [h]⟩ else none
 | .str,.str => some ⟨rfl⟩
 | .sl t,.sl u => (t.eq? u).map fun h => ⟨by rw [h.down]⟩
 | .own t,.own u => (t.eq? u).map fun h => ⟨by rw [h.down]⟩
 | _,_ => none
def ET.eq? : (a b : ET) → Option (PLift (a = b))
 | .one c,.one d => (c.eq? d).map fun h => ⟨by rw [h.down]⟩
 | .agg c,.agg d => (c.eq? d).map fun h => ⟨by rw [h.down]⟩
 | _,_ => none
def CTs.eq? : (a b : CTs) → Option (PLift (a = b))
 | .nil,.nil => some ⟨rfl⟩
 | .cons c cs,.cons d ds =>
   match c.eq? d,cs.eq? ds with
   | some h,some h' => some ⟨by rw [h.down,h'.down]⟩
   | _,_ => none
 | _,_ => none
end
def castL (t u : ET) (xs : List t.ty) : Option (List u.ty) :=
 match t.eq? u with
 | some h => some (h.down ▸ xs)
 | none => none
theorem castL_eq {t u : ET} {xs : List t.ty} {ys : List u.ty} (h : castL t u xs = some ys) : t = u ∧ HEq xs ys := by
 unfold castL at h
 split at h
 ·rename_i e _
  obtain ⟨rfl⟩ := e
  simp only [Option.some.injEq] at h
  subst h
  exact ⟨rfl,HEq.rfl⟩
 ·cases h
inductive V where
 | any
 | undef
 | bool (b : Bool)
 | int (k : IntKind) (n : Int)
 | str (s : List UInt8)
 | agg (cs : List V)
 | sl0 (z : Nat)
 | sl (t : ET) (xs : List t.ty)
 | nils (z : Nat)
 | cst (v : Value)
 | tok (k : Nat) (t : ET) (xs : List t.ty)
 | view (r off len : Nat)
 | loc (r i c : Nat)
 | ptr (cs : List V) (c : Nat)
 | fn (f : Nat) (caps : List V)
 | tup (xs : List V)
 | own (t : ET) (xs : List t.ty)
 | iob (z : Nat) (x : V)
 | ios (t : ET) (xs : List t.ty)
mutual
def V.a : V → A
 | .any => .any
 | .undef => .undef
 | .bool b => .bool b
 | .int k n => .int k n
 | .str s => .str s
 | .agg cs => .agg (V.as cs)
 | .sl0 z => .sl z []
 | .sl t xs => .sl t.z (xs.map t.enc)
 | .nils z => .nils z
 | .cst v => .cst v
 | .tok k t xs => .tok k t.z (xs.map t.enc)
 | .view r o n => .view r o n
 | .loc r i c => .loc r i c
 | .ptr cs c => .ptr (V.as cs) c
 | .fn f caps => .fn f (V.as caps)
 | .tup xs => .tup (V.as xs)
 | .own t xs => .own t.z (xs.map t.enc)
 | .iob z x => .iob z [x.a]
 | .ios t xs => .ios t.z (xs.map t.enc)
def V.as : List V → List A
 | [] => []
 | v :: l => v.a :: V.as l
end
mutual
def CT.v : (c : CT) → c.ty → V
 | .bool,b => .bool b
 | .int k,n => .int k n
 | .str,s => .str s
 | .sl t,xs => .sl t xs
 | .own t,xs => .own t xs
def ET.v : (t : ET) → t.ty → V
 | .one c,x => c.v x
 | .agg cs,x => .agg (cs.v x)
def CTs.v : (cs : CTs) → cs.ty → List V
 | .nil,_ => []
 | .cons c cs,x => c.v x.1 :: cs.v x.2
end
mutual
theorem CT.v_a : ∀ (c : CT) (x : c.ty),(c.v x).a = c.enc x
 | .bool,_ => rfl
 | .int _,_ => rfl
 | .str,_ => rfl
 | .sl _,_ => rfl
 | .own _,_ => rfl
theorem ET.v_a : ∀ (t : ET) (x : t.ty),(t.v x).a = t.enc x
 | .one c,x => CT.v_a c x
 | .agg cs,x => by simp only [ET.v,V.a,ET.enc,CTs.v_as cs x]
theorem CTs.v_as : ∀ (cs : CTs) (x : cs.ty),V.as (cs.v x) = cs.enc x
 | .nil,_ => rfl
 | .cons c cs,x => by simp only [CTs.v,V.as,CTs.enc,CT.v_a c x.1,CTs.v_as cs x.2]
end
def V.toCT : (c : CT) → V → Option c.ty
 | .bool,.bool b => some b
 | .int k,.int k' n => if k' = k then some n else none
 | .str,.str s => some s
 | .sl t,.sl u xs => castL u t xs
 | .sl t,.sl0 z => if z = t.z then some [] else none
 | .own t,.own u xs => castL u t xs
 | _,_ => none
def V.toCTs : (cs : CTs) → List V → Option cs.ty
 | .nil,[] => some ()
 | .cons c cs,v :: l => (v.toCT c).bind fun x => (V.toCTs cs l).map fun y => (x,y)
 | _,_ => none
def V.toET : (t : ET) → V → Option t.ty
 | .one c,v => v.toCT c
 | .agg cs,.agg l => V.toCTs cs l
 | _,_ => none
theorem V.toCT_a {c : CT} {v : V} {x : c.ty} (h : v.toCT c = some x) : v.a = c.enc x := by
 unfold V.toCT at h
 split at h
 ·simp only [Option.some.injEq] at h; subst h; rfl
 ·split at h
  ·rename_i e; simp only [Option.some.injEq] at h; subst h; subst e; rfl
  ·cases h
 ·simp only [Option.some.injEq] at h; subst h; rfl
 ·obtain ⟨rfl,h⟩ := castL_eq h; cases h; rfl
 ·split at h
  ·rename_i e; simp only [Option.some.injEq] at h; subst h; subst e; rfl
  ·cases h
 ·obtain ⟨rfl,h⟩ := castL_eq h; cases h; rfl
 ·cases h
theorem V.toCTs_as : ∀ {cs : CTs} {l : List V} {x : cs.ty},V.toCTs cs l = some x → V.as l = cs.enc x
 | .nil,[],x,h => rfl
 | .nil,_ :: _,x,h => by simp [V.toCTs] at h
 | .cons c cs,[],x,h => by simp [V.toCTs] at h
 | .cons c cs,v :: l,x,h => by
   simp only [V.toCTs] at h
   obtain ⟨y,hy,h⟩ := Option.bind_eq_some_iff.1 h
   obtain ⟨z,hz,rfl⟩ := Option.map_eq_some_iff.1 h
   simp only [V.as,CTs.enc,V.toCT_a hy,V.toCTs_as hz]
theorem V.toET_a {t : ET} {v : V} {x : t.ty} (h : v.toET t = some x) : v.a = t.enc x := by
 unfold V.toET at h
 split at h
 ·exact V.toCT_a h
 ·simp only [V.a,ET.enc,V.toCTs_as h]
 ·cases h
theorem map_inj' {α β : Type} {f : α → β} (hf : ∀ x y,f x = f y → x = y) : ∀ {xs ys : List α},xs.map f = ys.map f → xs = ys
 | [],[],_ => rfl
 | [],_ :: _,h => by simp at h
 | _ :: _,[],h => by simp at h
 | x :: xs,y :: ys,h => by
   simp only [List.map_cons,List.cons.injEq] at h
   rw [hf _ _ h.1,map_inj' hf h.2]
mutual
theorem CT.enc_inj : ∀ (c : CT) (x y : c.ty),c.enc x = c.enc y → x = y
 | .bool,x,y,h => by simpa [CT.enc] using h
 | .int _,x,y,h => by simpa [CT.enc] using h
 | .str,x,y,h => by simpa [CT.enc] using h
 | .sl t,x,y,h => by simp only [CT.enc,A.sl.injEq,true_and] at h; exact map_inj' (ET.enc_inj t) h
 | .own t,x,y,h => by simp only [CT.enc,A.own.injEq,true_and] at h; exact map_inj' (ET.enc_inj t) h
theorem ET.enc_inj : ∀ (t : ET) (x y : t.ty),t.enc x = t.enc y → x = y
 | .one c,x,y,h => CT.enc_inj c x y h
 | .agg cs,x,y,h => CTs.enc_inj cs x y (by simpa [ET.enc] using h)
theorem CTs.enc_inj : ∀ (cs : CTs) (x y : cs.ty),cs.enc x = cs.enc y → x = y
 | .nil,_,_,_ => rfl
 | .cons c cs,x,y,h => by
   simp only [CTs.enc,List.cons.injEq] at h
   exact Prod.ext (CT.enc_inj c _ _ h.1) (CTs.enc_inj cs _ _ h.2)
end
theorem V.as_map (l : List V) : V.as l = l.map V.a := by
 induction l with
 | nil => rfl
 | cons v l ih => simp only [V.as,List.map_cons,ih]
def V.cells : V → List V
 | .agg cs => cs
 | v => [v]
theorem V.cells_a (v : V) : v.a.cells = v.cells.map V.a := by
 cases v <;> simp [V.a,A.cells,V.cells,V.as_map]
theorem CT.enc_noAgg (c : CT) (x : c.ty) : noAgg (c.enc x) = true := by
 cases c <;> rfl
theorem CTs.enc_noAgg : ∀ (cs : CTs) (x : cs.ty),(cs.enc x).all noAgg = true
 | .nil,_ => rfl
 | .cons c cs,x => by simp only [CTs.enc,List.all_cons,CT.enc_noAgg,CTs.enc_noAgg cs x.2,Bool.and_self]
theorem CT.enc_cells (c : CT) (x : c.ty) : (c.enc x).cells = [c.enc x] := by
 cases c <;> rfl
theorem ET.enc_flat (t : ET) (x : t.ty) : flatC (t.enc x) = true := by
 cases t with
 | one c => simp [flatC,ET.enc,CT.enc_cells,CT.enc_noAgg]
 | agg cs => simpa [flatC,ET.enc,A.cells] using CTs.enc_noAgg cs x
theorem CTs.enc_len : ∀ (cs : CTs) (x : cs.ty),(cs.enc x).length = cs.len
 | .nil,_ => rfl
 | .cons c cs,x => by simp only [CTs.enc,List.length_cons,CTs.enc_len cs x.2,CTs.len]
theorem ET.enc_z (t : ET) (x : t.ty) : (t.enc x).cells.length = t.z := by
 cases t with
 | one c => simp [ET.enc,CT.enc_cells,ET.z]
 | agg cs => simp [ET.enc,A.cells,CTs.enc_len,ET.z]
def ET.vs (t : ET) (x : t.ty) : List V := (t.v x).cells
theorem ET.vs_a (t : ET) (x : t.ty) : (t.enc x).cells = (t.vs x).map V.a := by
 rw [← ET.v_a,V.cells_a]; rfl
mutual
def CT.plain : CT → Bool
 | .bool | .int _ | .str => true
 | _ => false
end
def CTs.plain : CTs → Bool
 | .nil => true
 | .cons c cs => c.plain && cs.plain
def ET.plain : ET → Bool
 | .one c => c.plain
 | .agg cs => cs.plain
def CT.data : CT → Bool
 | .own _ => false
 | _ => true
def CTs.data : CTs → Bool
 | .nil => true
 | .cons c cs => c.data && cs.data
def ET.data : ET → Bool
 | .one c => c.data
 | .agg cs => cs.data
theorem CT.enc_plain (c : CT) (x : c.ty) (h : c.plain = true) : (c.enc x).plain = true := by
 cases c <;> first | rfl | (simp [CT.plain] at h)
theorem CTs.enc_plain : ∀ (cs : CTs) (x : cs.ty),cs.plain = true → A.plains (cs.enc x) = true
 | .nil,_,_ => rfl
 | .cons c cs,x,h => by
   simp only [CTs.plain,Bool.and_eq_true] at h
   simp only [CTs.enc,A.plains,CT.enc_plain c x.1 h.1,CTs.enc_plain cs x.2 h.2,Bool.and_self]
theorem ET.enc_plain (t : ET) (x : t.ty) (h : t.plain = true) : (t.enc x).plain = true := by
 cases t with
 | one c => exact CT.enc_plain c x h
 | agg cs => simpa [ET.enc,A.plain] using CTs.enc_plain cs x h
end Go.Ab
namespace Go.Ab
inductive VR where
 | var (z : Nat) (x : V)
 | sl (t : ET) (xs : List t.ty)
def VR.a : VR → Root
 | .var z x => ⟨true,z,[x.a]⟩
 | .sl t xs => ⟨false,t.z,xs.map t.enc⟩
structure VSt where
 t : List (Nat × V)
 r : List (Nat × Option VR)
def vget : List (Nat × V) → Nat → V
 | [],_ => .any
 | (j,v) :: l,i => if i = j then v else vget l i
def rget : List (Nat × Option VR) → Nat → Option VR
 | [],_ => none
 | (j,v) :: l,i => if i = j then v else rget l i
def VSt.a (st : VSt) : St := ⟨fun i => (vget st.t i).a,fun i => (rget st.r i).map VR.a⟩
def A.ok1 : A → Bool
 | .any | .undef | .bool _ | .int _ _ | .str _ | .nils _ | .cst _ | .sl _ [] | .fn _ [] => true
 | _ => false
def A.okV : A → Bool
 | .agg cs => cs.all A.ok1
 | a => a.ok1
def A.toV1 : A → V
 | .undef => .undef
 | .bool b => .bool b
 | .int k n => .int k n
 | .str s => .str s
 | .nils z => .nils z
 | .cst v => .cst v
 | .sl z _ => .sl0 z
 | .fn f _ => .fn f []
 | _ => .any
def A.toV : A → V
 | .agg cs => .agg (cs.map A.toV1)
 | a => a.toV1
def Opd.ok : Opd → Bool
 | .t _ => true
 | .c a => a.okV
def Opd.vv (st : VSt) : Opd → V
 | .t i => vget st.t i
 | .c a => a.toV
def VSt.put (st : VSt) (d : Option Nat) (v : V) : VSt :=
 match d with
 | some d => { st with t := (d,v) :: st.t }
 | none => st
def VSt.put' (st : VSt) (i : Nat) (v : V) : VSt := { st with t := (i,v) :: st.t }
def VSt.map (f : V → V) (st : VSt) : VSt := { st with t := st.t.map fun p => (p.1,f p.2) }
def vcomps (f : V → V) : V → V
 | .tup xs => .tup (xs.map f)
 | .agg xs => .agg (xs.map f)
 | .fn g xs => .fn g (xs.map f)
 | a => f a
def vrefs1 (r : Nat) : V → Bool
 | .view q _ _ | .loc q _ _ => q == r
 | _ => false
def visTok1 (k : Nat) : V → Bool
 | .tok j _ _ => j == k
 | _ => false
def vkill1 (r : Nat) (a : V) : V := if vrefs1 r a then .any else a
def vkillTok1 (k : Nat) (a : V) : V := if visTok1 k a then .any else a
def VSt.kill (st : VSt) (r : Nat) : VSt := st.map (vcomps (vkill1 r))
def VSt.killTok (st : VSt) (k : Nat) : VSt := st.map (vcomps (vkillTok1 k))
def VSt.setRoot (st : VSt) (r : Nat) (R : Option VR) : VSt := { st with r := (r,R) :: st.r }
def vpureC : V → Bool
 | .bool _ | .int .. | .str _ | .sl .. | .sl0 _ | .nils _ | .ptr .. => true
 | .cst v => oneV v
 | .fn _ caps => caps.isEmpty
 | _ => false
def vpure : V → Bool
 | .agg cs => cs.all vpureC
 | a => vpureC a
def vnormC : V → V
 | .nils z => .sl0 z
 | a => a
def vnormA : V → V
 | .agg cs => .agg (cs.map vnormC)
 | a => vnormC a
def vdat (a : V) : Option V := if vpure a then some (vnormA a) else none
def vdrop {α : Type} : Nat → List α → List α
 | 0,l => l
 | n + 1,l => l.drop (n + 1)
def vadd : Nat → Nat → Nat
 | 0,m => m
 | n + 1,m => (n + 1) + m
def vconv1 (r : List (Nat × Option VR)) : V → Option V
 | .view q off n =>
   match rget r q with
   | some (.sl t xs) => some (.sl t ((vdrop off xs).take n))
   | _ => none
 | .tok _ t xs => some (.sl t xs)
 | a => if vpureC a then some (vnormC a) else none
def vconvs (r : List (Nat × Option VR)) : List V → Option (List V)
 | [] => some []
 | a :: l => match vconv1 r a,vconvs r l with | some x,some xs => some (x :: xs) | _,_ => none
def vtoData1 {R : Type} (r : List (Nat × Option VR)) (v : V) (k : V → Option R) : Option R :=
 match v with
 | .loc q i c =>
   match rget r q with
   | some (.var _ x) => (match i,vconvs r x.cells with | 0,some cs => k (.ptr cs c) | _,_ => none)
   | some (.sl t xs) => if t.data then (xs[i]?).bind fun x => k (.ptr (t.vs x) c) else none
   | none => none
 | .agg cs => (match vconvs r cs with | some cs => k (.agg cs) | none => none)
 | a => (match vconv1 r a with | some x => k x | none => none)
def vtoDatas {R : Type} (r : List (Nat × Option VR)) : List V → (List V → Option R) → Option R
 | [],k => k []
 | a :: l,k => vtoData1 r a fun x => vtoDatas r l fun xs => k (x :: xs)
def vanyTok : V → Bool
 | .tok .. => true
 | _ => false
def vunTok1 (k : Nat) : V → V
 | .tok j t xs => if j = k then .sl t xs else .tok j t xs
 | a => a
def vunTok (k : Nat) : V → V := vcomps (vunTok1 k)
def vunRoot1 (r : Nat) (t : ET) (xs : List t.ty) : V → V
 | .view q off n => if q = r then .sl t ((vdrop off xs).take n) else .view q off n
 | .loc q i c => if q = r then .any else .loc q i c
 | a => a
def vunRoot (r : Nat) (t : ET) (xs : List t.ty) : V → V := vcomps (vunRoot1 r t xs)
def nthV : List V → Nat → V
 | [],_ => .any
 | v :: _,0 => v
 | _ :: l,j + 1 => nthV l j
def vcomp (a : V) (j : Nat) : V := nthV a.cells j
def VSt.pin1 (st : VSt) (i j : Nat) : Option VSt :=
 match vcomp (vget st.t i) j with
 | .tok k _ _ => some (st.map (vunTok k))
 | .view q _ _ =>
   match rget st.r q with
   | some (.sl t xs) => some ((st.map (vunRoot q t xs)).setRoot q none)
   | _ => none
 | _ => some st
def VSt.pinN (st : VSt) (i : Nat) : Nat → Option VSt
 | 0 => some st
 | n + 1 => match st.pinN i n with | some st1 => st1.pin1 i n | none => none
def VSt.pin (st : VSt) (x : V) : Option (V × VSt) :=
 match (st.put' gs x).pinN gs x.cells.length with
 | some st1 => (match vdat (vget st1.t gs) with | some v => some (v,st1.put' gs .any) | none => none)
 | none => none
section
variable {R : Type}
def vbin (op : BinOp) (x y : V) (k : V → Option R) : Option R :=
 match x,y with
 | .int i a,.int j b =>
   match op with
   | .shl => if decide (b < 0) then none else k (.int i (i.wrap (a * 2 ^ (min b.toNat i.bits))))
   | .shr => if decide (b < 0) then none else k (.int i (a.fdiv (2 ^ (min b.toNat i.bits))))
   | .quo => if i = j then (if decide (b = 0) then none else k (.int i (i.wrap (a.tdiv b)))) else none
   | .rem => if i = j then (if decide (b = 0) then none else k (.int i (a.tmod b))) else none
   | .add => if i = j then k (.int i (i.wrap (a + b))) else none
   | .sub => if i = j then k (.int i (i.wrap (a - b))) else none
   | .mul => if i = j then k (.int i (i.wrap (a * b))) else none
   | .and => if i = j then k (.int i (i.wrap (BitVec.ofInt i.bits a &&& BitVec.ofInt i.bits b).toNat)) else none
   | .or => if i = j then k (.int i (i.wrap (BitVec.ofInt i.bits a ||| BitVec.ofInt i.bits b).toNat)) else none
   | .xor => if i = j then k (.int i (i.wrap (BitVec.ofInt i.bits a ^^^ BitVec.ofInt i.bits b).toNat)) else none
   | .andNot => if i = j then k (.int i (i.wrap (BitVec.ofInt i.bits a &&& ~~~ (BitVec.ofInt i.bits b)).toNat)) else none
   | .eql => if i = j then k (.bool (a == b)) else none
   | .neq => if i = j then k (.bool (a != b)) else none
   | .lss => if i = j then k (.bool (decide (a < b))) else none
   | .leq => if i = j then k (.bool (decide (a ≤ b))) else none
   | .gtr => if i = j then k (.bool (decide (a > b))) else none
   | .geq => if i = j then k (.bool (decide (a ≥ b))) else none
 | .str a,.str b =>
   match op with
   | .add => if decide (a.length + b.length ≤ strMax) then k (.str (a ++ b)) else none
   | .eql => k (.bool (a == b))
   | .neq => k (.bool (!(a == b)))
   | .lss => k (.bool (Op.bytesLess a b))
   | .leq => k (.bool (Op.bytesLess a b || a == b))
   | .gtr => k (.bool (!(Op.bytesLess a b || a == b)))
   | .geq => k (.bool (!Op.bytesLess a b))
   | _ => none
 | _,_ => none
def veqCell : Kd → V → V → Option Bool
 | .b,.bool a,.bool b => some (a == b)
 | .i,.int k a,.int k' b => if k = k' then some (a == b) else none
 | .s,.str a,.str b => some (a == b)
 | _,_,_ => none
def veqCells : List Kd → List V → List V → Option Bool
 | [],[],[] => some true
 | [k],[a],[b] => veqCell k a b
 | k :: ks,a :: l,b :: m => match veqCell k a b,veqCells ks l m with | some x,some y => some (x && y) | _,_ => none
 | _,_,_ => none
def vun (op : UnOp) (x : V) : Option V :=
 match op,x with
 | .neg,.int k n => some (.int k (k.wrap (0 - n)))
 | .not,.bool b => some (.bool !b)
 | _,_ => none
def vmax2 : V → V → Option V
 | .int k x,.int k' y => if k = k' then some (.int k (if y > x then y else x)) else none
 | _,_ => none
def vmin2 : V → V → Option V
 | .int k x,.int k' y => if k = k' then some (.int k (if y < x then y else x)) else none
 | _,_ => none
def vfold (f : V → V → Option V) : V → List V → Option V
 | a,[] => some a
 | a,b :: l => match f a b with | some c => vfold f c l | none => none
def velems (r : List (Nat × Option VR)) (t : ET) : V → Option (List t.ty)
 | .sl u xs => castL u t xs
 | .tok _ u xs => castL u t xs
 | .nils z => if z = t.z then some [] else none
 | .sl0 z => if z = t.z then some [] else none
 | .view q off n =>
   match rget r q with
   | some (.sl u xs) => castL u t ((vdrop off xs).take n)
   | _ => none
 | _ => none
def vlen (r : List (Nat × Option VR)) : V → Option Nat
 | .sl _ xs => some xs.length
 | .sl0 _ => some 0
 | .tok _ _ xs => some xs.length
 | .nils _ => some 0
 | .view q _ n => match rget r q with | some _ => some n | none => none
 | _ => none
def vgetCells (cs : List V) (c : Nat) : Option Nat → Option V
 | none => cs[c]?
 | some n => if c + n ≤ cs.length then some (.agg (((cs.drop c).take n).map vnormC)) else none
def vsetCells (cs : List V) (c : Nat) (vs : List V) : Option (List V) :=
 if c + vs.length ≤ cs.length then some (cs.take c ++ vs ++ cs.drop (c + vs.length)) else none
def vreCell (old : V) (cs : List V) : V :=
 match old with
 | .agg _ => .agg cs
 | _ => match cs with | [] => .any | c :: _ => c
def vsolid (r : List (Nat × Option VR)) : V → Bool
 | .tok .. => true
 | .view q _ _ | .loc q _ _ => (rget r q).isSome
 | a => vpureC a
def vfillA (st : VSt) : List V → List (Nat × Nat × Opd) → Option (List V)
 | cs,[] => some cs
 | cs,(off,z,x) :: l =>
   if x.ok && decide ((x.vv st).cells.length = z) && (x.vv st).cells.all (vsolid st.r) then
    match vsetCells cs off (x.vv st).cells with | some cs' => vfillA st cs' l | none => none
   else none
def vfillS (st : VSt) (t : ET) : List t.ty → List (Nat × Opd) → Option (List t.ty)
 | xs,[] => some xs
 | xs,(i,x) :: l =>
   if x.ok then
    match vdat (x.vv st) with
    | some v => (match v.toET t with | some y => if i < xs.length then vfillS st t (xs.set i y) l else none | none => none)
    | none => none
   else none
def vlend1 (r : List (Nat × Option VR)) : V → Option V
 | .view q off n =>
   match rget r q with
   | some (.sl t xs) => some (.own t ((vdrop off xs).take n))
   | _ => none
 | a => if vpureC a then some a else none
def vlends (r : List (Nat × Option VR)) : List V → Option (List V)
 | [] => some []
 | a :: l => match vlend1 r a,vlends r l with | some x,some xs => some (x :: xs) | _,_ => none
def vtake1 (q c : Nat) (st : VSt) : V → Option (V × VSt)
 | .own t xs => if c < 1000 then some (.view (sub q c) 0 xs.length,(st.kill (sub q c)).setRoot (sub q c) (some (.sl t xs))) else none
 | a => if vpureC a then some (a,st) else none
def vtakes (q : Nat) : Nat → VSt → List V → Option (List V × VSt)
 | _,st,[] => some ([],st)
 | c,st,a :: l =>
   match vtake1 q c st a with
   | some (x,st1) => (match vtakes q (c + 1) st1 l with | some (xs,st2) => some (x :: xs,st2) | none => none)
   | none => none
def vtakeVar (st : VSt) (q : Nat) (z : Nat) (x : V) : Option VSt :=
 if q < 1000 ∧ x.cells.length ≤ 1000 then
  match vtakes q 0 ((st.kill q).setRoot q none) x.cells with
  | some (cs,st1) => some ((st1.kill q).setRoot q (some (.var z (vreCell x cs))))
  | none => none
 else none
def VSt.absorb1 (st : VSt) (q c j : Nat) : Option (V × VSt) :=
 match vcomp (vget st.t gs) j with
 | .tok k t xs =>
   if c + j < 1000 then some (.view (sub q (c + j)) 0 xs.length,((st.killTok k).kill (sub q (c + j))).setRoot (sub q (c + j)) (some (.sl t xs))) else none
 | .view s off n =>
   if s = sub q (c + j) ∧ c + j < 1000 ∧ (rget st.r s).isSome = true then some (.view s off n,st)
   else
    match st.pin1 gs j with
    | some st1 => if vpureC (vcomp (vget st1.t gs) j) then some (vnormC (vcomp (vget st1.t gs) j),st1) else none
    | none => none
 | .nils z => some (.nils z,st)
 | a => if vpureC a then some (vnormC a,st) else none
def VSt.absorbs (st : VSt) (q c : Nat) : (j n : Nat) → Option (List V × VSt)
 | _,0 => some ([],st)
 | j,n + 1 =>
   match st.absorb1 q c j with
   | some (x,st1) => (match st1.absorbs q c (j + 1) n with | some (xs,st2) => some (x :: xs,st2) | none => none)
   | none => none
def vblank (e : V) (c n : Nat) : V := vreCell e (e.cells.take c ++ List.replicate n .any ++ e.cells.drop (c + n))
def vretok (d : Nat) : Nat → List V → List V
 | _,[] => []
 | j,.tok _ t xs :: l => .tok (8 * d + j) t xs :: vretok d (j + 1) l
 | j,a :: l => a :: vretok d (j + 1) l
def vpackR (d : Nat) (l : List V) : V :=
 match vretok d 0 l with
 | [a] => a
 | l => .tup l
def visIob : V → Bool
 | .iob .. => true
 | _ => false
def vlandR (st : VSt) (d : Option Nat) (rs : List V) : Option VSt :=
 match rs,d with
 | [.iob z x],some d => (match vtakeVar st d z x with | some st1 => some (st1.put (some d) (.loc d 0 0)) | none => none)
 | rs,d => if rs.any visIob then none else some (st.put d (vpackR (match d with | some d => d | none => 0) rs))
def vplain : V → Bool
 | .bool _ | .int _ _ | .str _ => true
 | _ => false
def vplainA : V → Bool
 | .agg cs => cs.all vplain
 | a => vplain a
def vresStay : V → Bool
 | .tok .. => true
 | a => vplainA a
def vowned1 : V → Bool
 | .view .. | .tok .. | .loc .. => true
 | _ => false
def vowned : V → Bool
 | .fn _ caps => caps.any vowned1
 | .agg cs => cs.any vowned1
 | a => vowned1 a
end
end Go.Ab
namespace Go.Ab
def vsub (t : ET) (cs : List V) (c : Nat) : V :=
 match t with
 | .one _ => (match nthV cs c with | .agg _ => .any | v => v)
 | .agg us => .agg ((cs.drop c).take us.len)
@[reducible] def tysE : List ET → Type
  | [] => Unit
  | t :: ts => t.ty × tysE ts
def vsE : (ts : List ET) → tysE ts → List V
 | [],_ => []
 | t :: ts,x => .ptr (t.vs x.1) 0 :: vsE ts x.2
def ofE : (ts : List ET) → List V → Option (tysE ts)
 | [],[] => some ()
 | t :: ts,.ptr cs c :: l => match (vsub t cs c).toET t,ofE ts l with | some x,some y => some (x,y) | _,_ => none
 | _,_ => none
inductive MT where
 | d (t : ET)
 | p (t : ET)
 | tok (t : ET)
 | box (t : ET)
 | ios (t : ET)
 | fn (f : Nat) (ts : List ET)
 | gone
@[reducible] def MT.ty : MT → Type
  | .d t => t.ty
  | .p t => t.ty
  | .tok t => List t.ty
  | .box t => t.ty
  | .ios t => List t.ty
  | .fn _ ts => tysE ts
  | .gone => Unit
def MT.v (j : Nat) : (m : MT) → m.ty → V
 | .d t,x => t.v x
 | .p t,x => .ptr (t.vs x) 0
 | .tok t,x => .tok j t x
 | .box t,x => .iob t.z (t.v x)
 | .ios t,x => .ios t x
 | .fn f ts,x => .fn f (vsE ts x)
 | .gone,_ => .any
def vown1 : CT → V → V
 | .own t,.nils z => if z = t.z then .own t [] else .nils z
 | _,v => v
def vownC : CTs → List V → List V
 | .cons c cs,v :: l => vown1 c v :: vownC cs l
 | _,l => l
def vownE : ET → V → V
 | .one c,v => vown1 c v
 | .agg cs,.agg l => .agg (vownC cs l)
 | _,v => v
def MT.of : (m : MT) → V → Option m.ty
 | .d t,v => v.toET t
 | .p t,.ptr cs c => (vsub t cs c).toET t
 | .tok t,.tok _ u xs => castL u t xs
 | .box t,.iob z x => if z = t.z then (vownE t x).toET t else none
 | .ios t,.ios u xs => castL u t xs
 | .fn f ts,.fn g l => if g = f then ofE ts l else none
 | .gone,.any => some ()
 | _,_ => none
@[reducible] def tysU : List MT → Type
  | [] => Unit
  | m :: ms => m.ty × tysU ms
@[reducible] def tys1 : List MT → Type
  | [] => Unit
  | [m] => m.ty
  | m :: n :: ms => m.ty × tys1 (n :: ms)
def ofU : (ms : List MT) → List V → Option (tysU ms)
 | [],[] => some ()
 | m :: ms,v :: l => match m.of v,ofU ms l with | some x,some y => some (x,y) | _,_ => none
 | _,_ => none
def vsU (j : Nat) : (ms : List MT) → tysU ms → List V
 | [],_ => []
 | m :: ms,x => m.v j x.1 :: vsU (j + 1) ms x.2
def of1 : (ms : List MT) → List V → Option (tys1 ms)
 | [],[] => some ()
 | [m],[v] => m.of v
 | m :: n :: ms,v :: l => match m.of v,of1 (n :: ms) l with | some x,some y => some (x,y) | _,_ => none
 | _,_ => none
def vs1 (j : Nat) : (ms : List MT) → tys1 ms → List V
 | [],_ => []
 | [m],x => [m.v j x]
 | m :: n :: ms,x => m.v j x.1 :: vs1 (j + 1) (n :: ms) x.2
def noTok : List MT → Bool
 | [] => true
 | .tok _ :: _ => false
 | _ :: ms => noTok ms
structure Callee where
 io : List Bool
 ps : List MT
 rs : List MT
 os : List MT
 f : tysU ps → Option (tys1 (rs ++ os))
def dget : List (Nat × Callee) → Nat → Option Callee
 | [],_ => none
 | (j,v) :: l,i => if i = j then some v else dget l i
def hget : List (Nat × ET) → Nat → Option ET
 | [],_ => none
 | (j,v) :: l,i => if i = j then some v else hget l i
def vios (D : List (Nat × Callee)) (g : Nat) : List Bool := match dget D g with | some c => c.io | none => []
section
variable {R : Type}
def vtoData (r : List (Nat × Option VR)) (v : V) (k : V → Option R) : Option R :=
 match v with
 | .fn f caps => if caps.any vanyTok then none else vtoDatas r caps fun cs => k (.fn f cs)
 | v => vtoData1 r v k
def vargs0 (st : VSt) : List Opd → (List V → Option R) → Option R
 | [],k => k []
 | x :: l,k => if x.ok then vtoData st.r (x.vv st) fun a => vargs0 st l fun r => k (a :: r) else none
def vcase (n : Int) (k : Nat → Option R) : Nat → Nat → Option R
 | 0,_ => none
 | m + 1,j => if decide (n = (j : Int)) then k j else vcase n k m (j + 1)
def vcf (D : List (Nat × Callee)) (g : Nat) (as : List V) (k : List V → List V → Option R) : Option R :=
 match dget D g with
 | some c =>
   match ofU c.ps as with
   | some x => if noTok c.ps then (c.f x).bind fun y => k ((vs1 0 (c.rs ++ c.os) y).take c.rs.length) ((vs1 0 (c.rs ++ c.os) y).drop c.rs.length) else none
   | none => none
 | none => none
def vopt {α : Type} (o : Option α) (k : α → Option R) : Option R :=
 match o with
 | some x => k x
 | none => none
def vu8 (n : Int) : UInt8 := UInt8.ofNat n.toNat
def vevalV (D : List (Nat × Callee)) (H : List (Nat × ET)) (d : Option Nat) (st : VSt) (o : O) (k : V → Option R) : Option R :=
 match o with
 | .mv x => if x.ok then k (x.vv st) else none
 | .asg x => if x.ok then (match x.vv st with | .tok .. => none | .nils _ => none | a => k a) else none
 | .pick c a b => if c.ok && a.ok && b.ok then (match c.vv st with | .bool t => if t then k (a.vv st) else k (b.vv st) | _ => none) else none
 | .build zero parts => if zero.all A.ok1 then vopt (vfillA st (zero.map A.toV1) parts) fun cs => k (.agg cs) else none
 | .bsl z zero n parts =>
   (match d with
    | some d => vopt (hget H d) fun t => if zero.okV && decide (t.z = z) && decide (n * z ≤ 16777216) then
       vopt (zero.toV.toET t) fun z0 => vopt (vfillS st t (List.replicate n z0) parts) fun xs => k (.tok (8 * d) t xs) else none
    | none => none)
 | .ld n a => if a.ok then
   (match a.vv st with
    | .loc q i c =>
      (match rget st.r q with
       | some (.var _ x) => (match i with | 0 => vopt (vgetCells x.cells c n) k | _ => none)
       | some (.sl t xs) => (xs[i]?).bind fun x => vopt (vgetCells (t.vs x) c n) k
       | none => none)
    | .ptr cs c => vopt (vgetCells cs c n) k
    | _ => none) else none
 | .nilck x => if x.ok then
   (match x.vv st with
    | .loc q i c => (match rget st.r q with | some _ => k (.loc q i c) | none => none)
    | .ptr cs c => k (.ptr cs c)
    | .fn f caps => k (.fn f caps)
    | _ => none) else none
 | .bin op x y => if x.ok && y.ok then vbin op (x.vv st) (y.vv st) k else none
 | .eqs neq ks x y => if x.ok && y.ok then
   (match x.vv st,y.vv st with
    | .agg a,.agg b => vopt (veqCells ks a b) fun e => k (.bool (if neq then !e else e))
    | _,_ => none) else none
 | .eqb neq x y => if x.ok && y.ok then (match x.vv st,y.vv st with | .bool a,.bool b => k (.bool (if neq then !(a == b) else a == b)) | _,_ => none) else none
 | .un op x => if x.ok then vopt (vun op (x.vv st)) k else none
 | .conv c x => if x.ok then
   (match c,x.vv st with
    | .int i,.int _ n => k (.int i (i.wrap n))
    | .same,.str s => k (.str s)
    | .bytesStr,a => vopt (velems st.r (.one (.int .u8)) a) fun xs => k (.str (xs.map vu8))
    | .strBytes z,.str s => (match d with | some d => if z = 1 then k (.tok (8 * d) (.one (.int .u8)) (s.map fun b => (b.toNat : Int))) else none | none => none)
    | _,_ => none) else none
 | .fa off x => if x.ok then
   (match x.vv st with
    | .loc q i c => (match rget st.r q with | some _ => k (.loc q i (c + off)) | none => none)
    | .ptr cs c => k (.ptr cs (c + off))
    | _ => none) else none
 | .fld off n x => if x.ok then (match x.vv st with | .agg cs => vopt (vgetCells cs off n) k | _ => none) else none
 | .ia z x i => if x.ok && i.ok then
   (match i.vv st,x.vv st with
    | .int _ n,.view q off len =>
      (match rget st.r q with
       | some (.sl t xs) => if decide (t.z = z) then (if decide (0 ≤ n) && decide (n < (len : Int)) then k (.loc q (vadd off n.toNat) 0) else none) else none
       | _ => none)
    | .int _ n,.sl t xs => if decide (t.z = z) then (if decide (0 ≤ n) then (xs[n.toNat]?).bind fun x => k (.ptr (t.vs x) 0) else none) else none
    | _,_ => none) else none
 | .iaa len z x i => if x.ok && i.ok then
   (match i.vv st,x.vv st with
    | .int _ n,.loc q j c => (match rget st.r q with | some _ => vcase n (fun m => k (.loc q j (c + m * z))) len 0 | none => none)
    | .int _ n,.ptr cs c => vcase n (fun m => k (.ptr cs (c + m * z))) len 0
    | _,_ => none) else none
 | .ix x i => if x.ok && i.ok then
   (match i.vv st,x.vv st with
    | .int _ n,.str s => if decide (0 ≤ n) then (s[n.toNat]?).bind fun b => k (.int .u8 b.toNat) else none
    | _,_ => none) else none
 | .ixa len z n x i => if x.ok && i.ok then
   (match i.vv st,x.vv st with
    | .int _ j,.agg cs => vcase j (fun m => vopt (vgetCells cs (m * z) n) k) len 0
    | _,_ => none) else none
 | .slcs x lo hi => if x.ok && lo.all Opd.ok && hi.all Opd.ok then
   (match lo.map (Opd.vv st),hi.map (Opd.vv st),x.vv st with
    | none,some (.int _ h),.str s => if decide (0 ≤ h) && decide (h ≤ (s.length : Int)) then k (.str (s.take h.toNat)) else none
    | some (.int _ l),some (.int _ h),.str s => if decide (0 ≤ l) && decide (l ≤ h) && decide (h ≤ (s.length : Int)) then k (.str ((s.take h.toNat).drop l.toNat)) else none
    | none,none,.str s => k (.str s)
    | some (.int _ l),none,.str s => if decide (0 ≤ l) && decide (l ≤ (s.length : Int)) then k (.str (s.drop l.toNat)) else none
    | _,_,_ => none) else none
 | .slc z x lo hi => if x.ok && lo.all Opd.ok && hi.all Opd.ok then
   (match lo.map (Opd.vv st),hi.map (Opd.vv st),x.vv st with
    | none,some (.int _ h),.sl t xs => if decide (t.z = z) then (if decide (0 ≤ h) && decide (h ≤ (xs.length : Int)) then k (.sl t (xs.take h.toNat)) else none) else none
    | some (.int _ l),some (.int _ h),.sl t xs => if decide (t.z = z) then (if decide (0 ≤ l) && decide (l ≤ h) && decide (h ≤ (xs.length : Int)) then k (.sl t ((xs.take h.toNat).drop l.toNat)) else none) else none
    | none,none,.sl t xs => if decide (t.z = z) then k (.sl t xs) else none
    | some (.int _ l),none,.sl t xs => if decide (t.z = z) then (if decide (0 ≤ l) && decide (l ≤ (xs.length : Int)) then k (.sl t (xs.drop l.toNat)) else none) else none
    | none,some (.int _ h),.view q off n =>
      (match rget st.r q with
       | some (.sl t xs) => if decide (t.z = z) then (if decide (0 ≤ h) && decide (h ≤ (n : Int)) then k (.view q off h.toNat) else none) else none
       | _ => none)
    | some (.int _ l),some (.int _ h),.view q off n =>
      (match rget st.r q with
       | some (.sl t xs) => if decide (t.z = z) then (if decide (0 ≤ l) && decide (l ≤ h) && decide (h ≤ (n : Int)) then k (.view q (vadd off l.toNat) (h.toNat - l.toNat)) else none) else none
       | _ => none)
    | none,none,.view q off n => (match rget st.r q with | some (.sl t xs) => if decide (t.z = z) then k (.view q off n) else none | _ => none)
    | some (.int _ l),none,.view q off n =>
      (match rget st.r q with
       | some (.sl t xs) => if decide (t.z = z) then (if decide (0 ≤ l) && decide (l ≤ (n : Int)) then k (.view q (vadd off l.toNat) (n - l.toNat)) else none) else none
       | _ => none)
    | _,_,_ => none) else none
 | .len x => if x.ok then vopt (vlen st.r (x.vv st)) fun n => k (.int .i64 (n : Int)) else none
 | .lens x => if x.ok then (match x.vv st with | .str s => k (.int .i64 s.length) | _ => none) else none
 | .max xs => if xs.all Opd.ok then (match xs.map (Opd.vv st) with | [] => none | a :: l => vopt (vfold vmax2 a l) k) else none
 | .min xs => if xs.all Opd.ok then (match xs.map (Opd.vv st) with | [] => none | a :: l => vopt (vfold vmin2 a l) k) else none
 | .mks z bytes zero l c => if l.ok && c.ok && zero.okV then
   (match d,l.vv st,c.vv st with
    | some d,.int kl n,.int kc m =>
      vopt (hget H d) fun t => if decide (kl = .i64) && decide (kc = .i64) && decide (t.z = z) && decide (bytes ≤ 256) then
       vopt (zero.toV.toET t) fun z0 => if decide (0 ≤ n) && decide (n ≤ m) && decide (m.toNat < lim) then k (.tok (8 * d) t (List.replicate n.toNat z0)) else none else none
    | _,_,_ => none) else none
 | .mkf f caps => if caps.all Opd.ok && (caps.map (Opd.vv st)).all fun x => vsolid st.r x && !vanyTok x then k (.fn f (caps.map (Opd.vv st))) else none
 | .call f args => if f.ok then
   (match f.vv st with
    | .fn g caps =>
      if (vios D g).any id then none else
      vargs0 st args fun as => if caps.any vanyTok then none else vtoDatas st.r caps fun cs => vcf D g (as ++ cs) fun rs _ =>
       if (rs.all vresStay || !((args.map (Opd.vv st)).any vowned || caps.any vowned1)) && !rs.any visIob then k (vpackR (match d with | some d => d | none => 0) rs) else none
    | _ => none) else none
 | .ext x i => if x.ok then (match x.vv st with | .tup xs => vopt (xs[i]?) k | _ => none) else none
 | _ => none
def vrootOf1 : V → List Nat
 | .view q _ _ | .loc q _ _ => [q]
 | _ => []
def VR.names : VR → List Nat
 | .var _ x => x.cells.flatMap vrootOf1
 | .sl _ _ => []
def vnamesOf (r : List (Nat × Option VR)) : V → List Nat
 | .view q _ _ => [q]
 | .loc q _ _ => q :: (match rget r q with | some R => R.names | none => [])
 | _ => []
def vnames (r : List (Nat × Option VR)) : V → List Nat
 | .fn _ cs | .agg cs | .tup cs => cs.flatMap (vnamesOf r)
 | a => vnamesOf r a
end
end Go.Ab
namespace Go.Ab
def vless (r : List (Nat × Option VR)) (ns : List Nat) : List (Nat × Option VR) := r.map fun p => if ns.contains p.1 then (p.1,none) else p
def vonly (r : List (Nat × Option VR)) (ns : List Nat) : List (Nat × Option VR) := r.map fun p => if ns.contains p.1 then p else (p.1,none)
def vlaid : Nat → List V → List (Nat × V)
 | _,[] => []
 | i,v :: l => (i,v) :: vlaid (i + 1) l
def vbelow : List (Nat × V) → List (Nat × V)
 | [] => []
 | p :: l => if p.1 < gs then p :: vbelow l else vbelow l
def VSt.lay (st : VSt) (vs : List V) : VSt := { st with t := vlaid gs vs ++ vbelow st.t }
def VSt.own1 (st : VSt) (m : Option MT) (j : Nat) : Option VSt :=
 match vget st.t (gs + j) with
 | .tok k t xs => some ((((st.killTok k).kill (own3 j)).setRoot (own3 j) (some (.sl t xs))).put' (gs + j) (.view (own3 j) 0 xs.length))
 | .nils z => (match m with | some (.ios t) => if t.z = z then some (((st.kill (own3 j)).setRoot (own3 j) (some (.sl t []))).put' (gs + j) (.view (own3 j) 0 0)) else none | _ => none)
 | _ => some st
def VSt.pinAll (st : VSt) : List Bool → List MT → (j n : Nat) → Option VSt
 | _,_,_,0 => some st
 | true :: bs,ms,j,n + 1 => match st.own1 ms.head? j with | some st1 => VSt.pinAll st1 bs ms.tail (j + 1) n | none => none
 | bs,ms,j,n + 1 => match st.pinN (gs + j) (vget st.t (gs + j)).cells.length with | some st1 => VSt.pinAll st1 bs.tail ms.tail (j + 1) n | none => none
def viops (D : List (Nat × Callee)) (g : Nat) : List MT := match dget D g with | some c => c.ps | none => []
section
variable {R : Type}
def vloan1 (st : VSt) (v : V) (k : Nat → V → Option R) : Option R :=
 match v with
 | .loc q 0 0 =>
   (match rget st.r q with
    | some (.var z x) => vopt (vlends st.r x.cells) fun cs => k q (.iob z (vreCell x cs))
    | _ => none)
 | .view q 0 n =>
   (match rget st.r q with
    | some (.sl t xs) => if decide (n = xs.length) then k q (.ios t xs) else none
    | _ => none)
 | _ => none
def vloans (st : VSt) : List Bool → List V → (List (Option V) → List Nat → List Nat → Option R) → Option R
 | _,[],k => k [] [] []
 | true :: bs,a :: l,k => vloan1 st a fun q x => vloans st bs l fun xs qs ns => k (some x :: xs) (q :: qs) (vnames st.r a ++ ns)
 | bs,a :: l,k => vloans st bs.tail l fun xs qs ns => k (none :: xs) qs ns
def vargs1 (r : List (Nat × Option VR)) : List (Option V) → List V → (List V → Option R) → Option R
 | some x :: xs,_ :: l,k => vargs1 r xs l fun r => k (x :: r)
 | none :: xs,a :: l,k => if vowned a then none else vtoData r a fun x => vargs1 r xs l fun r => k (x :: r)
 | [],[],k => k []
 | _,_,_ => none
def vblanks (st : VSt) : List Nat → List V → Option VSt
 | [],[] => some st
 | q :: qs,.iob z x :: l =>
   (match rget st.r q with
    | some (.var _ x0) => vblanks { st with r := (q,some (.var z (vreCell x (x.cells.map fun _ => V.any)))) :: vless st.r (x0.cells.flatMap vrootOf1) } qs l
    | _ => none)
 | q :: qs,.ios t xs :: l => vblanks (st.setRoot q (some (.sl t xs))) qs l
 | q :: qs,.any :: l => vblanks (st.setRoot q none) qs l
 | _,_ => none
def vtakeOuts (st : VSt) : List Nat → List V → Option VSt
 | [],[] => some st
 | q :: qs,.iob z x :: l =>
   if x.cells.length ≤ 1000 then
    (match vtakes q 0 st x.cells with
     | some (cs,st1) => vtakeOuts (st1.setRoot q (some (.var z (vreCell x cs)))) qs l
     | none => none)
   else none
 | _ :: qs,.ios .. :: l => vtakeOuts st qs l
 | _ :: qs,.any :: l => vtakeOuts st qs l
 | _,_ => none
def vfillQ (st : VSt) (t : ET) : List t.ty → List (Nat × Opd) → Option (List t.ty × VSt)
 | xs,[] => some (xs,st)
 | xs,(i,x) :: l =>
   if x.ok then
    match st.pin (x.vv st) with
    | some (v,st1) => (match v.toET t with | some y => if i < xs.length then vfillQ st1 t (xs.set i y) l else none | none => none)
    | none => none
   else none
def vstepW (D : List (Nat × Callee)) (H : List (Nat × ET)) (d : Option Nat) (st : VSt) (o : O) (k : VSt → Option R) : Option R :=
 match o with
 | .asg x => if x.ok then
   (match d,x.vv st with
    | some d,.tok n t xs => if d < 1000 then k ((((st.killTok n).kill d).setRoot d (some (.sl t xs))).put (some d) (.view d 0 xs.length)) else none
    | some d,.nils z => vopt (hget H d) fun t => if decide (t.z = z) && decide (d < 1000) then k (((st.kill d).setRoot d (some (.sl t []))).put (some d) (.view d 0 ([] : List t.ty).length)) else none
    | d,a => k (st.put d a)) else none
 | .alloc z zero =>
   (match d with
    | some d => if zero.okV && decide (zero.toV.cells.length = z) && decide (d < 1000) && zero.toV.cells.all vpureC then k (((st.kill d).setRoot d (some (.var z zero.toV))).put (some d) (.loc d 0 0)) else none
    | none => none)
 | .box z x => if x.ok then
   (match d with
    | some d =>
      if decide (d < 1000) && decide (z ≤ 1000) && decide ((x.vv st).cells.length = z) && (x.vv st).cells.all (vsolid st.r) then
       match (((st.put' gs (x.vv st)).kill d).setRoot d none).absorbs d 0 0 z with
       | some (cs,st1) => k ((((st1.put' gs .any).kill d).setRoot d (some (.var z (vreCell (x.vv st) cs)))).put (some d) (.loc d 0 0))
       | none => none
      else none
    | none => none) else none
 | .sto n a x => if a.ok && x.ok then
   if (x.vv st).cells.length = n then
    match a.vv st with
    | .loc q i c =>
      (match rget st.r q with
       | some (.var z e) =>
         (match i with
          | 0 =>
            if decide (q < 1000) && decide (c + n ≤ e.cells.length) && decide (c + n ≤ 1000) && (x.vv st).cells.all (vsolid st.r) then
             match ((st.put' gs (x.vv st)).setRoot q (some (.var z (vblank e c n)))).absorbs q c 0 n with
             | some (vs,st1) => k (((st1.put' gs .any).setRoot q (some (.var z (vreCell e (e.cells.take c ++ vs ++ e.cells.drop (c + n)))))).put d .any)
             | none => none
            else none
          | _ => none)
       | some (.sl _ _) =>
         (match st.pin (x.vv st) with
          | some (v,st1) =>
            if v.cells.length = n then
             (match rget st1.r q with
              | some (.sl t xs) => (xs[i]?).bind fun e => vopt (vsetCells (t.vs e) c v.cells) fun cs => vopt ((vreCell (t.v e) cs).toET t) fun y => k ((st1.setRoot q (some (.sl t (xs.set i y)))).put d .any)
              | _ => none)
            else none
          | none => none)
       | none => none)
    | _ => none
   else none else none
 | .app z bytes s x => if s.ok && x.ok then
   (match d with
    | none => none
    | some d =>
      vopt (hget H d) fun t =>
      vopt (velems st.r t (x.vv st)) fun ys =>
       if decide (t.z = z) && decide (bytes ≤ 128) then
       match s.vv st with
       | .tok n u xs => vopt (castL u t xs) fun xs => if decide (xs.length + ys.length < lim) then k ((st.killTok n).put (some d) (.tok (8 * d) t (xs ++ ys))) else none
       | .nils z1 => if z1 = z then (if decide (ys.length < lim) then k (st.put (some d) (.tok (8 * d) t ys)) else none) else none
       | .view q off n =>
         (match rget st.r q with
          | some (.sl u xs) => vopt (castL u t xs) fun xs => if decide (n + ys.length < lim) then k (((st.kill q).setRoot q none).put (some d) (.tok (8 * d) t ((vdrop off xs).take n ++ ys))) else none
          | _ => none)
       | _ => none
       else none) else none
 | .call f args => if f.ok && args.all Opd.ok then
   (match f.vv st with
    | .fn g caps =>
      vopt ((st.lay (args.map (Opd.vv st) ++ caps)).pinAll (vios D g) (viops D g) 0 (args.length + caps.length)) fun st1 =>
       let vs := (List.range (args.length + caps.length)).map fun j => vget st1.t (gs + j)
       vloans st1 (vios D g) vs fun ls qs ns =>
        if decide ns.Nodup then
         vargs1 (vless st1.r ns) ls vs fun as => vcf D g as fun res outs =>
          vopt (vblanks (st1.lay []) qs outs) fun st2 => vopt (vtakeOuts st2 qs outs) fun st3 => vopt (vlandR st3 d res) k
        else none
    | _ => none) else none
 | .ia z x i => if x.ok && i.ok then
   (match i.vv st,x.vv st with
    | .int _ n,.tok k' t' xs' =>
      (match st.pin (x.vv st) with
       | some (.sl t xs,st1) => if decide (t.z = z) then (if decide (0 ≤ n) then (xs[n.toNat]?).bind fun y => k (st1.put d (.ptr (t.vs y) 0)) else none) else none
       | _ => none)
    | _,_ => none) else none
 | .bsl z zero n parts =>
   (match d with
    | some d =>
      vopt (hget H d) fun t => if zero.okV && decide (t.z = z) && decide (n * z ≤ 16777216) then
       vopt (zero.toV.toET t) fun z0 => vopt (vfillQ st t (List.replicate n z0) parts) fun (xs,st1) => k (st1.put (some d) (.tok (8 * d) t xs)) else none
    | none => none)
 | _ => none
def vstep (D : List (Nat × Callee)) (H : List (Nat × ET)) (st : VSt) (o : Op) (k : VSt → Option R) : Option R :=
 if o.w then (if chkW st.a o then vstepW D H o.d st o.o k else none) else vevalV D H o.d st o.o fun v => if readOk st.a o v.a then k (st.put o.d v) else none
def slotOf : List Op → Nat → Option Nat
 | [],_ => none
 | o :: _,0 => o.d
 | _ :: l,j + 1 => slotOf l j
def vrunOps (D : List (Nat × Callee)) (H : List (Nat × ET)) (all : List Op) : List Op → VSt → (VSt → Option R) → Option R
 | [],st,k => k st
 | o :: l,st,k =>
   match o.g with
   | none => vstep D H st o fun st' => vrunOps D H all l st' k
   | some (j,want) =>
     match slotOf all j with
     | some d =>
       (match vget st.t d with
        | .bool b =>
          if b then
           (if want then vstep D H (st.put' d (.bool true)) o fun st' => vrunOps D H all l st' k else vrunOps D H all l ((st.put' d (.bool true)).put o.d .undef) k)
          else
           (if want then vrunOps D H all l ((st.put' d (.bool false)).put o.d .undef) k else vstep D H (st.put' d (.bool false)) o fun st' => vrunOps D H all l st' k)
        | .undef => vrunOps D H all l (st.put o.d .undef) k
        | _ => none)
     | none => none
def vfz1 : V → V
 | .tok _ t xs => .sl t xs
 | a => a
def vfz : V → V := vcomps vfz1
def VSt.restrict (st : VSt) (keep keepR : List Nat) : VSt :=
 { t := keep.map fun i => (i,vfz (vget st.t i)),r := keepR.map fun i => (i,rget st.r i) }
def VSt.open1 (H : List (Nat × ET)) (st : VSt) (n : Nat) (k : VSt → Option R) : Option R :=
 match rget st.r (n / 1000 - 1) with
 | some (.var z (.agg cs)) =>
   (match cs[n % 1000]? with
    | some (.nils z1) => if decide (1000 ≤ n) && (rget st.r n).isNone then vopt (hget H n) fun t => if t.z = z1 then k (((st.kill n).setRoot n (some (.sl t []))).setRoot (n / 1000 - 1) (some (.var z (.agg (cs.set (n % 1000) (.view n 0 ([] : List t.ty).length)))))) else none else none
    | some (.view ..) => k st
    | _ => none)
 | _ => none
inductive Fr where
 | c (c : C)
 | e (id : Nat)
 | l (b : C)
def unwind (id : Nat) : List Fr → Option (List Fr)
 | [] => none
 | .e j :: s => if j = id then some s else unwind id s
 | _ :: s => unwind id s
def mstep (D : List (Nat × Callee)) (H : List (Nat × ET)) (leave : VSt → Option R) (G N : List Fr → VSt → Option R) : List Fr → VSt → Option R
 | [],st => leave st
 | .e _ :: s,st => G s st
 | .l b :: s,st => G (.c b :: .l b :: s) st
 | .c c :: s,st =>
   match c with
   | .skip => G s st
   | .reg _ ops keep keepR => vrunOps D H ops ops st fun st' => G s (st'.restrict keep keepR)
   | .seq a b => G (.c a :: .c b :: s) st
   | .cond c a b => if c.ok then (match c.vv st with | .bool t => if t then G (.c a :: s) st else G (.c b :: s) st | _ => none) else none
   | .block id b => G (.c b :: .e id :: s) st
   | .loop b => G (.c b :: .l b :: s) st
   | .exit id => vopt (unwind id s) fun s' => G s' st
   | .ret => leave st
   | .norm keep keepR b => N (.c b :: s) (st.restrict keep keepR)
   | .opn i b => st.open1 H i fun st' => G (.c b :: s) st'
   | .stop => none
def gN (D : List (Nat × Callee)) (H : List (Nat × ET)) (leave : VSt → Option R) : Nat → List Fr → VSt → Option R
 | 0,_,_ => none
 | n + 1,s,st => mstep D H leave (gN D H leave n) (gN D H leave n) s st
open Classical in
noncomputable def goL (D : List (Nat × Callee)) (H : List (Nat × ET)) (leave : VSt → Option R) (s : List Fr) (st : VSt) : Option R :=
 if h : ∃ n r,gN D H leave n s st = some r then some h.choose_spec.choose else none
def dn (D : List (Nat × Callee)) (H : List (Nat × ET)) (leave : VSt → Option R) (N : List Fr → VSt → Option R) : Nat → List Fr → VSt → Option R
 | 0,s,st => N s st
 | n + 1,s,st => mstep D H leave (dn D H leave N n) N s st
def visFn : V → Bool
 | .fn .. => true
 | _ => false
def visLent : V → Bool
 | .iob .. | .ios .. => true
 | _ => false
def vlentOk : List Bool → List V → Bool
 | _,[] => true
 | b :: bs,a :: l => (!visLent a || b) && vlentOk bs l
 | [],a :: l => !visLent a && vlentOk [] l
def venterArgs (i : Nat) : List V → VSt → Option VSt
 | [],st => some st
 | .iob z x :: l,st => match vtakeVar st i z x with | some st1 => venterArgs (i + 1) l (st1.put (some i) (.loc i 0 0)) | none => none
 | .ios t xs :: l,st => if i < 1000 then venterArgs (i + 1) l (((st.kill i).setRoot i (some (.sl t xs))).put (some i) (.view i 0 xs.length)) else none
 | a :: l,st => if vpure a || visFn a then venterArgs (i + 1) l (st.put (some i) a) else none
def venter (fn : Fn) (args : List V) : Option VSt :=
 if decide (args.length = fn.np) && vlentOk fn.io args then venterArgs 0 args ⟨[],[]⟩ else none
def vrs (st : VSt) : Rs → (V → Option R) → Option R
 | .t i,k => k (vget st.t i)
 | .cell i n,k =>
   match vget st.t i with
   | .loc q j c =>
     (match rget st.r q with
      | some (.var _ x) => (match j with | 0 => vopt (vgetCells x.cells c n) k | _ => none)
      | some (.sl t xs) => (xs[j]?).bind fun x => vopt (vgetCells (t.vs x) c n) k
      | none => none)
   | _ => none
def vrsAll (st : VSt) : List Rs → (List V → Option R) → Option R
 | [],k => k []
 | r :: l,k => vrs st r fun a => vrsAll st l fun xs => k (a :: xs)
def vdropTok1 (ks : List Nat) : V → V
 | .tok k t xs => if ks.contains k then .any else .tok k t xs
 | a => a
def vtokOf1 : V → List Nat
 | .tok k _ _ => [k]
 | _ => []
def vtoksOf : V → List Nat
 | .agg cs | .tup cs => cs.flatMap vtokOf1
 | a => vtokOf1 a
def vleave1 (st : VSt) (j : Nat) (own : Bool) (m : MT) (k : V → VSt → Option R) : Option R :=
 if own then
  match vget st.t (gs + j) with
  | .tok n t xs => if t.plain then k (.tok j t xs) (st.killTok n) else none
  | .nils z => (match m with | .tok t => if t.z = z then k (.tok j t []) st else none | _ => none)
  | .view q off n =>
    (match rget st.r q with
     | some (.sl t xs) => if t.plain then k (.tok j t ((vdrop off xs).take n)) { st with r := vless st.r [q] } else none
     | _ => none)
  | .loc q 0 0 =>
    (match rget st.r q with
     | some (.var z x) => vopt (vlends st.r x.cells) fun cs => k (.iob z (vreCell x cs)) { st with r := vless st.r (q :: x.cells.flatMap vrootOf1) }
     | _ => none)
  | _ => none
 else
  vtoData (vonly st.r (vnames st.r (vget st.t (gs + j)))) (vget st.t (gs + j)) fun x =>
   k x { t := st.t.map fun p => (p.1,vcomps (vdropTok1 (vtoksOf (vget st.t (gs + j)))) p.2),r := vless st.r (vnames st.r (vget st.t (gs + j))) }
def vleaves (st : VSt) : (j : Nat) → List Bool → List MT → (List V → VSt → Option R) → Option R
 | j,b :: bs,m :: ms,k => vleave1 st j b m fun x st1 => vleaves st1 (j + 1) bs ms fun xs st2 => k (x :: xs) st2
 | _,[],[],k => k [] st
 | _,_,_,_ => none
def vouts (st : VSt) (i : Nat) : List MT → List Nat → (List V → Option R) → Option R
 | [],_,k => k []
 | .box t :: l,ns,k =>
   (match rget st.r i with
    | some (.var z x) => if decide (z = t.z) && decide (i < 1000) then vopt (vlends st.r x.cells) fun cs => vouts st (i + 1) l ns fun r => k (.iob z (vreCell x cs) :: r) else none
    | _ => none)
 | .ios t :: l,n :: ns,k =>
   (match rget st.r i with
    | some (.sl u ys) => if decide (u.z = t.z) && decide (i < 1000) then (if decide (ys.length = n) then vouts st (i + 1) l ns fun r => k (.ios u ys :: r) else none) else none
    | none => vouts st (i + 1) l ns fun r => k (.any :: r)
    | _ => none)
 | .ios t :: l,[],k => none
 | .d _ :: l,ns,k => vouts st (i + 1) l ns k
 | .p _ :: l,ns,k => vouts st (i + 1) l ns k
 | .tok _ :: l,ns,k => none
 | .fn _ _ :: l,ns,k => vouts st (i + 1) l ns k
 | .gone :: l,ns,k => none
def lens : (ms : List MT) → tysU ms → List Nat
 | [],_ => []
 | .ios _ :: ms,x => x.1.length :: lens ms x.2
 | .d _ :: ms,x => lens ms x.2
 | .p _ :: ms,x => lens ms x.2
 | .tok _ :: ms,x => lens ms x.2
 | .box _ :: ms,x => lens ms x.2
 | .fn _ _ :: ms,x => lens ms x.2
 | .gone :: ms,x => lens ms x.2
def vleave (fn : Fn) (ps rs os : List MT) (ns : List Nat) (st : VSt) : Option (tys1 (rs ++ os)) :=
 if decide (fn.own.length = fn.res.length) then
  vrsAll st fn.res fun as => vleaves (st.lay as) 0 fn.own rs fun vs st1 => vouts { st1 with r := vless st1.r fn.gone } 0 ps ns fun ws => of1 (rs ++ os) (vs ++ ws)
 else none
noncomputable def mkCallee (D : List (Nat × Callee)) (H : List (Nat × ET)) (fn : Fn) (ps rs os : List MT) : Callee :=
 { io := fn.io,ps := ps,rs := rs,os := os,f := fun x => vopt (venter fn (vsU 0 ps x)) fun st => goL D H (vleave fn ps rs os (lens ps x)) [.c fn.body] st }
end
end Go.Ab
namespace Go.Ab
def Ok1 {α R : Type} (F : (α → Option R) → Option R) (P : α → Prop) : Prop := ∀ k r,F k = some r → ∃ x,P x ∧ k x = some r ∧ ∀ k',F k' = k' x
section
variable {α β R : Type}
theorem Ok1.mk {P : α → Prop} {x : α} (h : P x) : Ok1 (fun k : α → Option R => k x) P := fun k r hk => ⟨x,h,hk,fun _ => rfl⟩
theorem Ok1.no {P : α → Prop} : Ok1 (fun _ : α → Option R => none) P := fun k r hk => by cases hk
theorem Ok1.ite {P : α → Prop} {c : Prop} [Decidable c] {F G : (α → Option R) → Option R} (hF : c → Ok1 F P) (hG : ¬ c → Ok1 G P) : Ok1 (fun k => if c then F k else G k) P := by
 by_cases h : c
 ·simp only [h,if_true]; exact hF h
 ·simp only [h,if_false]; exact hG h
theorem Ok1.ifc {P : α → Prop} {c : Prop} [Decidable c] {F : (α → Option R) → Option R} (hF : c → Ok1 F P) : Ok1 (fun k => if c then F k else none) P :=
 Ok1.ite hF fun _ => Ok1.no
theorem Ok1.bind {P : α → Prop} {o : Option β} {F : β → (α → Option R) → Option R} (hF : ∀ x,o = some x → Ok1 (F x) P) : Ok1 (fun k => o.bind fun x => F x k) P := by
 cases o with
 | none => exact Ok1.no
 | some x => exact hF x rfl
theorem Ok1.vopt {P : α → Prop} {o : Option β} {F : β → (α → Option R) → Option R} (hF : ∀ x,o = some x → Ok1 (F x) P) : Ok1 (fun k => Ab.vopt o fun x => F x k) P := by
 cases o with
 | none => exact Ok1.no
 | some x => exact hF x rfl
theorem Ok1.vopt' {P : α → Prop} {o : Option α} (hF : ∀ x,o = some x → P x) : Ok1 (fun k : α → Option R => Ab.vopt o k) P := Ok1.vopt (F := fun x k => k x) fun x h => Ok1.mk (hF x h)
theorem Ok1.seq {P : α → Prop} {Q : β → Prop} {F : (α → Option R) → Option R} {G : α → (β → Option R) → Option R} (hF : Ok1 F P) (hG : ∀ x,P x → Ok1 (G x) Q) : Ok1 (fun k => F fun x => G x k) Q := by
 intro k r h
 obtain ⟨x,hx,h1,h2⟩ := hF _ r h
 obtain ⟨y,hy,h3,h4⟩ := hG x hx _ r h1
 exact ⟨y,hy,h3,fun k' => (h2 _).trans (h4 k')⟩
theorem Ok1.weak {P Q : α → Prop} {F : (α → Option R) → Option R} (hF : Ok1 F P) (h : ∀ x,P x → Q x) : Ok1 F Q := fun k r hk => by
 obtain ⟨x,hx,h1,h2⟩ := hF k r hk
 exact ⟨x,h x hx,h1,h2⟩
end
theorem St.ext' {a b : St} (h1 : ∀ i,a.t i = b.t i) (h2 : ∀ i,a.r i = b.r i) : a = b := by
 cases a; cases b; simp only [St.mk.injEq]; exact ⟨funext h1,funext h2⟩
theorem vget_cons (l : List (Nat × V)) (d : Nat) (v : V) (i : Nat) : vget ((d,v) :: l) i = if i = d then v else vget l i := rfl
theorem rget_cons (l : List (Nat × Option VR)) (d : Nat) (v : Option VR) (i : Nat) : rget ((d,v) :: l) i = if i = d then v else rget l i := rfl
theorem VSt.a_t (st : VSt) (i : Nat) : st.a.t i = (vget st.t i).a := rfl
theorem VSt.a_r (st : VSt) (i : Nat) : st.a.r i = (rget st.r i).map VR.a := rfl
theorem VSt.put_a (st : VSt) (d : Option Nat) (v : V) : (st.put d v).a = st.a.put d v.a := by
 cases d with
 | none => rfl
 | some d =>
   refine St.ext' (fun i => ?_) fun i => rfl
   simp only [VSt.put,VSt.a_t,vget_cons,St.put]
   split <;> rfl
theorem VSt.put'_a (st : VSt) (d : Nat) (v : V) : (st.put' d v).a = st.a.put' d v.a := by
 refine St.ext' (fun i => ?_) fun i => rfl
 simp only [VSt.put',VSt.a_t,vget_cons,St.put']
 split <;> rfl
theorem VSt.setRoot_a (st : VSt) (q : Nat) (R : Option VR) : (st.setRoot q R).a = st.a.setRoot q (R.map VR.a) := by
 refine St.ext' (fun i => rfl) fun i => ?_
 simp only [VSt.setRoot,VSt.a_r,rget_cons,St.setRoot]
 split <;> rfl
theorem vget_map (f : V → V) (l : List (Nat × V)) (i : Nat) : vget (l.map fun p => (p.1,f p.2)) i = f (vget l i) ∨ (vget (l.map fun p => (p.1,f p.2)) i = .any ∧ vget l i = .any) := by
 induction l with
 | nil => exact .inr ⟨rfl,rfl⟩
 | cons p l ih =>
   simp only [List.map_cons,vget]
   split
   ·exact .inl rfl
   ·exact ih
theorem VSt.map_a (st : VSt) {f : V → V} {g : A → A} (h : ∀ v,(f v).a = g v.a) (h0 : g .any = .any) : (st.map f).a = st.a.map g := by
 refine St.ext' (fun i => ?_) fun i => rfl
 simp only [VSt.map,VSt.a_t,St.map]
 rcases vget_map f st.t i with e | ⟨e1,e2⟩
 ·rw [e,h]
 ·rw [e1,e2]; exact h0.symm
theorem vcomps_a {f : V → V} {g : A → A} (h : ∀ v,(f v).a = g v.a) (v : V) : (vcomps f v).a = comps g v.a := by
 have hl : ∀ l : List V,V.as (l.map f) = (V.as l).map g := fun l => by
  induction l with
  | nil => rfl
  | cons x l ih => simp only [List.map_cons,V.as,h,ih]
 cases v <;> first
  | (simp only [vcomps,V.a,comps,hl]; done)
  | exact h _
theorem vrefs1_a (r : Nat) (v : V) : refs1 r v.a = vrefs1 r v := by cases v <;> rfl
theorem visTok1_a (r : Nat) (v : V) : isTok1 r v.a = visTok1 r v := by cases v <;> rfl
theorem vkill1_a (r : Nat) (v : V) : (vkill1 r v).a = kill1 r v.a := by
 simp only [vkill1,kill1,vrefs1_a]; split <;> rfl
theorem vkillTok1_a (r : Nat) (v : V) : (vkillTok1 r v).a = killTok1 r v.a := by
 simp only [vkillTok1,killTok1,visTok1_a]; split <;> rfl
theorem VSt.kill_a (st : VSt) (r : Nat) : (st.kill r).a = st.a.kill r := st.map_a (vcomps_a (vkill1_a r)) rfl
theorem VSt.killTok_a (st : VSt) (r : Nat) : (st.killTok r).a = st.a.killTok r := st.map_a (vcomps_a (vkillTok1_a r)) rfl
theorem A.toV1_a {a : A} (h : a.ok1 = true) : a.toV1.a = a := by
 unfold A.ok1 at h
 split at h <;> first | rfl | cases h
theorem A.toV_a {a : A} (h : a.okV = true) : a.toV.a = a := by
 unfold A.okV at h
 split at h
 ·rename_i cs
  simp only [A.toV,V.a,A.agg.injEq,V.as_map,List.map_map]
  conv => rhs; rw [← List.map_id cs]
  refine List.map_congr_left fun x hx => A.toV1_a (List.all_eq_true.1 h x hx)
 ·rename_i hn
  unfold A.toV
  split
  ·rename_i cs; exact absurd rfl (hn cs)
  ·exact A.toV1_a h
theorem Opd.vv_a {x : Opd} (st : VSt) (h : x.ok = true) : (x.vv st).a = x.v st.a := by
 cases x with
 | t i => rfl
 | c a => exact A.toV_a h
theorem Opd.vvs_a {xs : List Opd} (st : VSt) (h : xs.all Opd.ok = true) : xs.map (Opd.v st.a) = (xs.map (Opd.vv st)).map V.a := by
 rw [List.map_map]
 refine List.map_congr_left fun x hx => (Opd.vv_a st (List.all_eq_true.1 h x hx)).symm
theorem vpureC_a (v : V) : pureC v.a = vpureC v := by
 cases v <;> first | rfl | (simp only [V.a,pureC,vpureC,V.as_map,List.isEmpty_map]) | (simp only [V.a,pureC,vpureC]; rename_i l; cases l <;> rfl)
theorem vnormC_a (v : V) : (vnormC v).a = normC v.a := by cases v <;> rfl
theorem vnormA_a (v : V) : (vnormA v).a = normA v.a := by
 cases v <;> first
  | rfl
  | (simp only [vnormA,V.a,normA,V.as_map,List.map_map,A.agg.injEq]; exact List.map_congr_left fun x _ => vnormC_a x)
theorem vpure_a (v : V) : pure v.a = vpure v := by
 cases v <;> first
  | rfl
  | (simp only [V.a,Ab.pure,vpure,V.as_map,List.all_map]; congr 1; funext x; exact vpureC_a x)
  | (simp only [V.a,Ab.pure,vpure]; exact vpureC_a (.fn _ _))
theorem vdat_a {v w : V} (h : vdat v = some w) : dat v.a = some w.a := by
 unfold vdat at h
 split at h
 ·rename_i hp
  simp only [Option.some.injEq] at h
  subst h
  simp only [dat,vpure_a,hp,if_true,vnormA_a]
 ·cases h
theorem vdrop_eq {α : Type} (n : Nat) (l : List α) : vdrop n l = l.drop n := by cases n <;> rfl
theorem vadd_eq (n m : Nat) : vadd n m = n + m := by cases n <;> simp [vadd]
theorem part_a (t : ET) (xs : List t.ty) (o n : Nat) : ((vdrop o xs).take n).map t.enc = ((xs.map t.enc).drop o).take n := by
 rw [vdrop_eq,List.map_take,List.map_drop]
theorem nthV_a : ∀ (l : List V) (j : Nat),(nthV l j).a = ((l.map V.a)[j]?).getD .any
 | [],_ => rfl
 | v :: l,0 => rfl
 | v :: l,j + 1 => by simpa [nthV] using nthV_a l j
theorem vcomp_a (v : V) (j : Nat) : (vcomp v j).a = comp v.a j := by
 simp only [vcomp,comp,V.cells_a,nthV_a]
theorem vunTok1_a (k : Nat) (v : V) : (vunTok1 k v).a = unTok1 k v.a := by
 cases v <;> first | rfl | (simp only [vunTok1,V.a,unTok1]; split <;> rfl)
theorem vunRoot1_a (q : Nat) (t : ET) (xs : List t.ty) (v : V) : (vunRoot1 q t xs v).a = unRoot1 q (VR.sl t xs).a v.a := by
 cases v <;> first
  | rfl
  | (simp only [vunRoot1,V.a,unRoot1,VR.a]; split <;> first | rfl | (simp only [V.a,part_a]))
theorem VSt.pin1_a {st st1 : VSt} {i j : Nat} (h : st.pin1 i j = some st1) : st.a.pin1 i j = some st1.a := by
 unfold VSt.pin1 at h
 unfold St.pin1
 rw [VSt.a_t,← vcomp_a]
 split at h
 ·rename_i k t xs e
  simp only [Option.some.injEq] at h; subst h
  rw [e]
  simp only [V.a]
  rw [st.map_a (f := vunTok k) (g := unTok k) (vcomps_a (vunTok1_a k)) rfl]
 ·rename_i q o n e
  rw [e]
  simp only [V.a,VSt.a_r]
  split at h
  ·rename_i t xs e2
   simp only [Option.some.injEq] at h; subst h
   rw [e2]
   simp only [Option.map_some,Option.bind_some,VR.a,Bool.false_eq_true,if_false,Option.some.injEq]
   rw [VSt.setRoot_a,st.map_a (f := vunRoot q t xs) (g := unRoot q (VR.sl t xs).a) (vcomps_a (vunRoot1_a q t xs)) rfl]
   rfl
  ·cases h
 ·rename_i h1 h2
  simp only [Option.some.injEq] at h; subst h
  revert h1 h2
  cases vcomp (vget st.t i) j <;> intro h1 h2 <;> first | rfl | exact absurd rfl (h1 _ _ _) | exact absurd rfl (h2 _ _ _)
theorem VSt.pinN_a {st : VSt} {i : Nat} : ∀ {n : Nat} {st1 : VSt},st.pinN i n = some st1 → st.a.pinN i n = some st1.a
 | 0,st1,h => by simp only [VSt.pinN,Option.some.injEq] at h; subst h; rfl
 | n + 1,st1,h => by
   simp only [VSt.pinN] at h
   split at h
   ·rename_i st2 e
    simp only [St.pinN,VSt.pinN_a e,Option.bind_some]
    exact VSt.pin1_a h
   ·cases h
theorem VSt.pin_a {st st1 : VSt} {x v : V} (h : st.pin x = some (v,st1)) : st.a.pin x.a = some (v.a,st1.a) := by
 unfold VSt.pin at h
 split at h
 ·rename_i st2 e
  split at h
  ·rename_i w e2
   simp only [Option.some.injEq,Prod.mk.injEq] at h
   obtain ⟨rfl,rfl⟩ := h
   have h1 := VSt.pinN_a e
   rw [VSt.put'_a] at h1
   simp only [St.pin,V.cells_a,List.length_map,h1,Option.bind_some]
   rw [VSt.a_t,vdat_a e2]
   simp only [Option.map_some,VSt.put'_a]
   rfl
  ·cases h
 ·cases h
theorem vconv1_a {st : VSt} {v w : V} (h : vconv1 st.r v = some w) : conv1 st.a.r v.a = some w.a := by
 unfold vconv1 at h
 split at h
 ·rename_i q o n
  split at h
  ·rename_i t xs e
   simp only [Option.some.injEq] at h; subst h
   simp only [V.a,conv1,VSt.a_r,e,Option.map_some,VR.a,part_a]
  ·cases h
 ·simp only [Option.some.injEq] at h; subst h; rfl
 ·rename_i h1 h2
  split at h
  ·rename_i hp
   simp only [Option.some.injEq] at h; subst h
   have : ∀ a : A,(∀ q o n,a ≠ .view q o n) → (∀ k z xs,a ≠ .tok k z xs) → conv1 st.a.r a = if pureC a then some (normC a) else none := fun a ha hb => by
    unfold conv1
    split
    ·exact absurd rfl (ha _ _ _)
    ·exact absurd rfl (hb _ _ _)
    ·rfl
   rw [this,vpureC_a,if_pos hp,vnormC_a]
   ·intro q o n e; cases v <;> simp [V.a] at e; exact h1 _ _ _ rfl
   ·intro k z xs e; cases v <;> simp [V.a] at e; exact h2 _ _ _ rfl
  ·cases h
theorem vconvs_a {st : VSt} : ∀ {l m : List V},vconvs st.r l = some m → convs st.a.r (l.map V.a) = some (m.map V.a)
 | [],m,h => by simp only [vconvs,Option.some.injEq] at h; subst h; rfl
 | a :: l,m,h => by
   simp only [vconvs] at h
   split at h
   ·rename_i x xs e1 e2
    simp only [Option.some.injEq] at h; subst h
    simp only [List.map_cons,convs,vconv1_a e1,vconvs_a e2,Option.bind_some,Option.map_some]
   ·cases h
theorem CT.conv1_enc {r : Nat → Option Root} (c : CT) (x : c.ty) (h : c.data = true) : conv1 r (c.enc x) = some (c.enc x) := by
 cases c <;> first | rfl | (simp [CT.data] at h)
theorem CTs.convs_enc {r : Nat → Option Root} : ∀ (cs : CTs) (x : cs.ty),cs.data = true → convs r (cs.enc x) = some (cs.enc x)
 | .nil,_,_ => rfl
 | .cons c cs,x,h => by
   simp only [CTs.data,Bool.and_eq_true] at h
   simp only [CTs.enc,convs,CT.conv1_enc c x.1 h.1,CTs.convs_enc cs x.2 h.2,Option.bind_some,Option.map_some]
theorem ET.convs_enc {r : Nat → Option Root} (t : ET) (x : t.ty) (h : t.data = true) : convs r (t.enc x).cells = some (t.enc x).cells := by
 cases t with
 | one c => simp only [ET.enc,CT.enc_cells,convs,CT.conv1_enc c x h,Option.bind_some,Option.map_some]
 | agg cs => exact CTs.convs_enc cs x h
section
variable {R : Type}
theorem vtoData1_ok (st : VSt) (v : V) : Ok1 (R := R) (vtoData1 st.r v) fun w => toData1 st.a.r v.a = some w.a := by
 have gen : ∀ v : V,(∀ q i c,v ≠ .loc q i c) → (∀ cs,v ≠ .agg cs) → Ok1 (R := R) (vtoData1 st.r v) fun w => toData1 st.a.r v.a = some w.a := by
  intro v h1 h2
  have e1 : ∀ k : V → Option R,vtoData1 st.r v k = vopt (vconv1 st.r v) k := fun k => by
   unfold vtoData1 vopt
   split
   ·exact absurd rfl (h1 _ _ _)
   ·exact absurd rfl (h2 _)
   ·cases vconv1 st.r v <;> rfl
  have e2 : toData1 st.a.r v.a = conv1 st.a.r v.a := by
   unfold toData1
   split
   ·rename_i e; cases v <;> simp [V.a] at e; exact absurd rfl (h1 _ _ _)
   ·rename_i e; cases v <;> simp [V.a] at e; exact absurd rfl (h2 _)
   ·rfl
  have e3 : vtoData1 (R := R) st.r v = fun k => vopt (vconv1 st.r v) k := funext e1
  rw [e3,e2]
  exact Ok1.vopt' fun x hx => vconv1_a hx
 cases v with
 | loc q i c =>
   have e : vtoData1 (R := R) st.r (.loc q i c) = fun k => match rget st.r q with
    | some (.var _ x) => (match i,vconvs st.r x.cells with | 0,some cs => k (.ptr cs c) | _,_ => none)
    | some (.sl t xs) => if t.data then (xs[i]?).bind fun x => k (.ptr (t.vs x) c) else none
    | none => none := rfl
   rw [e]
   simp only [V.a,toData1,VSt.a_r]
   cases hq : rget st.r q with
   | none => exact Ok1.no
   | some R0 =>
     cases R0 with
     | var z x =>
       cases i with
       | zero =>
         dsimp only
         cases hc : vconvs st.r x.cells with
         | none => exact Ok1.no
         | some cs =>
           refine Ok1.mk (x := V.ptr cs c) ?_
           simp only [Option.map_some,VR.a,Option.bind_some,List.getElem?_cons_zero,V.cells_a,vconvs_a hc,V.as_map,V.a]
       | succ n => exact Ok1.no
     | sl t xs =>
       refine Ok1.ifc fun hd => Ok1.bind fun y hy => Ok1.mk ?_
       simp only [Option.map_some,VR.a,Option.bind_some,List.getElem?_map,hy,ET.convs_enc _ _ hd,V.a,V.as_map]
       rw [ET.vs_a]
 | agg cs =>
   have e : vtoData1 (R := R) st.r (.agg cs) = fun k => match vconvs st.r cs with | some cs => k (.agg cs) | none => none := rfl
   rw [e]
   cases hc : vconvs st.r cs with
   | none => exact Ok1.no
   | some ds =>
     refine Ok1.mk (x := V.agg ds) ?_
     simp only [V.a,toData1,V.as_map,vconvs_a hc,Option.map_some]
 | _ => exact gen _ (by intros; simp) (by intros; simp)
theorem vtoDatas_ok (st : VSt) : ∀ l : List V,Ok1 (R := R) (vtoDatas st.r l) fun m => toDatas st.a.r (l.map V.a) = some (m.map V.a)
 | [] => Ok1.mk (x := []) rfl
 | v :: l => by
   refine Ok1.seq (F := vtoData1 st.r v) (G := fun x k => vtoDatas st.r l fun xs => k (x :: xs)) (vtoData1_ok st v) fun x hx => ?_
   refine Ok1.seq (F := vtoDatas st.r l) (G := fun xs k => k (x :: xs)) (vtoDatas_ok st l) fun xs hxs => Ok1.mk ?_
   simp only [List.map_cons,toDatas,hx,hxs,Option.bind_some,Option.map_some]
theorem vanyTok_a (v : V) : anyTok v.a = vanyTok v := by cases v <;> rfl
theorem any_a {f : A → Bool} {g : V → Bool} (h : ∀ v,f v.a = g v) (l : List V) : (l.map V.a).any f = l.any g := by
 rw [List.any_map]; congr 1; funext x; exact h x
theorem all_a {f : A → Bool} {g : V → Bool} (h : ∀ v,f v.a = g v) (l : List V) : (l.map V.a).all f = l.all g := by
 rw [List.all_map]; congr 1; funext x; exact h x
theorem vtoData_ok (st : VSt) (v : V) : Ok1 (R := R) (vtoData st.r v) fun w => toData st.a.r v.a = some w.a := by
 have gen : ∀ v : V,(∀ f c,v ≠ .fn f c) → Ok1 (R := R) (vtoData st.r v) fun w => toData st.a.r v.a = some w.a := by
  intro v hv
  have e1 : vtoData (R := R) st.r v = vtoData1 st.r v := by
   funext k; unfold vtoData; split
   ·exact absurd rfl (hv _ _)
   ·rfl
  have e2 : toData st.a.r v.a = toData1 st.a.r v.a := by
   unfold toData; split
   ·rename_i e; cases v <;> simp [V.a] at e; exact absurd rfl (hv _ _)
   ·rfl
  rw [e1,e2]; exact vtoData1_ok st v
 cases v with
 | fn f caps =>
   have e : vtoData (R := R) st.r (.fn f caps) = fun k => if caps.any vanyTok then none else vtoDatas st.r caps fun cs => k (.fn f cs) := rfl
   rw [e]
   refine Ok1.ite (fun _ => Ok1.no) fun hn => ?_
   refine Ok1.seq (F := vtoDatas st.r caps) (G := fun cs k => k (V.fn f cs)) (vtoDatas_ok st caps) fun cs hcs => Ok1.mk ?_
   simp only [V.a,toData,V.as_map,any_a vanyTok_a,hcs,Option.map_some]
   rw [if_neg hn]
 | _ => exact gen _ (by intros; simp)
end
end Go.Ab
namespace Go.Ab
theorem velems_a {st : VSt} {t : ET} {v : V} {xs : List t.ty} (h : velems st.r t v = some xs) : elems st.a.r v.a = some (t.z,xs.map t.enc) := by
 unfold velems at h
 split at h
 ·obtain ⟨rfl,h⟩ := castL_eq h; cases h; rfl
 ·obtain ⟨rfl,h⟩ := castL_eq h; cases h; rfl
 ·split at h
  ·rename_i e; simp only [Option.some.injEq] at h; subst h; subst e; rfl
  ·cases h
 ·split at h
  ·rename_i e; simp only [Option.some.injEq] at h; subst h; subst e; rfl
  ·cases h
 ·split at h
  ·rename_i e
   obtain ⟨rfl,h⟩ := castL_eq h; cases h
   simp only [V.a,elems,VSt.a_r,e,Option.map_some,VR.a,part_a]
  ·cases h
 ·cases h
theorem vlen_a {st : VSt} {v : V} {n : Nat} (h : vlen st.r v = some n) : lenA st.a.r v.a = some n := by
 unfold vlen at h
 split at h <;> first
  | (simp only [Option.some.injEq] at h; subst h; simp only [V.a,lenA,List.length_map,List.length_nil]; done)
  | skip
 ·split at h
  ·rename_i e
   simp only [Option.some.injEq] at h; subst h
   simp only [V.a,lenA,VSt.a_r,e,Option.map_some]
  ·cases h
 ·cases h
theorem vgetCells_a {cs : List V} {c : Nat} {n : Option Nat} {v : V} (h : vgetCells cs c n = some v) : getCells (cs.map V.a) c n = some v.a := by
 cases n with
 | none =>
   simp only [vgetCells] at h
   simp only [getCells,List.getElem?_map,h,Option.map_some]
 | some n =>
   simp only [vgetCells] at h
   split at h
   ·rename_i hl
    simp only [Option.some.injEq] at h; subst h
    simp only [getCells,List.length_map,if_pos hl,V.a,V.as_map,List.map_map,Option.some.injEq,A.agg.injEq,← List.map_drop,← List.map_take]
    exact List.map_congr_left fun x _ => (vnormC_a x).symm
   ·cases h
theorem vsetCells_a {cs ds vs : List V} {c : Nat} (h : vsetCells cs c vs = some ds) : setCells (cs.map V.a) c (vs.map V.a) = some (ds.map V.a) := by
 unfold vsetCells at h
 split at h
 ·rename_i hl
  simp only [Option.some.injEq] at h; subst h
  simp only [setCells,List.length_map,if_pos hl,List.map_append,List.map_take,List.map_drop]
 ·cases h
theorem vreCell_a (old : V) (cs : List V) : (vreCell old cs).a = reCell old.a (cs.map V.a) := by
 cases old <;> first
  | (simp only [vreCell,V.a,reCell,V.as_map]; done)
  | (cases cs <;> rfl)
theorem vsolid_a (st : VSt) (v : V) : solid st.a.r v.a = vsolid st.r v := by
 cases v <;> first
  | rfl
  | (simp only [V.a,solid,vsolid,VSt.a_r,Option.isSome_map]; done)
  | (simp only [V.a,solid,vsolid]; rename_i l; exact vpureC_a (V.fn _ l))
theorem vfillA_a {st : VSt} : ∀ {parts : List (Nat × Nat × Opd)} {cs ds : List V},vfillA st cs parts = some ds → fillA st.a (cs.map V.a) parts = some (ds.map V.a)
 | [],cs,ds,h => by simp only [vfillA,Option.some.injEq] at h; subst h; rfl
 | (off,z,x) :: l,cs,ds,h => by
   simp only [vfillA] at h
   split at h
   ·rename_i hc
    simp only [Bool.and_eq_true,decide_eq_true_eq] at hc
    obtain ⟨⟨hx,hz⟩,hs⟩ := hc
    split at h
    ·rename_i cs' e
     simp only [fillA,← Opd.vv_a st hx,V.cells_a,List.length_map,all_a (vsolid_a st),hz,hs,and_self,if_true,vsetCells_a e,Option.bind_some]
     exact vfillA_a h
    ·cases h
   ·cases h
theorem vfillS_a {st : VSt} {t : ET} : ∀ {parts : List (Nat × Opd)} {xs ys : List t.ty},vfillS st t xs parts = some ys → fillS st.a t.z (xs.map t.enc) parts = some (ys.map t.enc)
 | [],xs,ys,h => by simp only [vfillS,Option.some.injEq] at h; subst h; rfl
 | (i,x) :: l,xs,ys,h => by
   simp only [vfillS] at h
   split at h
   ·rename_i hx
    split at h
    ·rename_i v ev
     split at h
     ·rename_i y ey
      split at h
      ·rename_i hi
       simp only [fillS,← Opd.vv_a st hx,vdat_a ev,Option.bind_some,V.toET_a ey,ET.enc_z,List.length_map,hi,and_self,if_true]
       rw [← List.map_set]
       exact vfillS_a h
      ·cases h
     ·cases h
    ·cases h
   ·cases h
section
variable {R : Type}
theorem vbin_ok (op : BinOp) (x y : V) : Ok1 (R := R) (vbin op x y) fun v => binA op x.a y.a = some v.a := by
 intro k r h
 cases x <;> cases y <;> first
  | (simp [vbin] at h; done)
  | skip
 ·rename_i i a j b
  by_cases hij : i = j
  ·subst hij
   cases op <;> first
    | (simp [vbin] at h; done)
    | (simp only [vbin,if_true] at h
       refine ⟨_,?_,h,fun k' => by simp only [vbin,if_true]⟩
       simp only [V.a,binA,isShift,Bool.false_eq_true,if_false,if_true,intA])
    | (simp only [vbin,if_true,decide_eq_true_eq] at h
       split at h
       ·cases h
       ·rename_i hb
        refine ⟨_,?_,h,fun k' => by simp only [vbin,if_true,decide_eq_true_eq,if_neg hb]⟩
        simp only [V.a,binA,isShift,Bool.false_eq_true,if_false,if_true,intA,shiftA,if_neg hb])
  ·cases op <;> first
    | (simp [vbin,hij] at h; done)
    | (simp only [vbin,decide_eq_true_eq] at h
       split at h
       ·cases h
       ·rename_i hb
        refine ⟨_,?_,h,fun k' => by simp only [vbin,decide_eq_true_eq,if_neg hb]⟩
        simp only [V.a,binA,isShift,if_true,shiftA,if_neg hb])
 ·rename_i a b
  cases op <;> first
   | (simp [vbin] at h; done)
   | (simp only [vbin] at h
      refine ⟨_,?_,h,fun k' => by simp only [vbin]⟩
      simp only [V.a,binA,strA])
   | (simp only [vbin,decide_eq_true_eq] at h
      split at h
      ·rename_i hb
       refine ⟨_,?_,h,fun k' => by simp only [vbin,decide_eq_true_eq,if_pos hb]⟩
       simp only [V.a,binA,strA,if_pos hb]
      ·cases h)
theorem veqCell_a {k : Kd} {x y : V} {b : Bool} (h : veqCell k x y = some b) : eqCell k x.a y.a = some b := by
 unfold veqCell at h
 split at h
 ·simp only [Option.some.injEq] at h; subst h; rfl
 ·split at h
  ·rename_i e; simp only [Option.some.injEq] at h; subst h; subst e; simp only [V.a,eqCell,if_true]
  ·cases h
 ·simp only [Option.some.injEq] at h; subst h; rfl
 ·cases h
theorem veqCells_a : ∀ {ks : List Kd} {l m : List V} {b : Bool},veqCells ks l m = some b → eqCells ks (l.map V.a) (m.map V.a) = some b
 | [],l,m,b,h => by
   cases l <;> cases m <;> simp [veqCells] at h
   subst h; rfl
 | [k],l,m,b,h => by
   rcases l with _ | ⟨x,_ | ⟨x2,l⟩⟩ <;> rcases m with _ | ⟨y,_ | ⟨y2,m⟩⟩ <;> simp [veqCells] at h
   ·simp only [List.map_cons,List.map_nil,eqCells,veqCell_a h,Option.bind_some,Option.map_some,Bool.and_true]
   all_goals (split at h <;> cases h)
 | k :: k2 :: ks,l,m,b,h => by
   cases l with
   | nil => simp [veqCells] at h
   | cons x l =>
     cases m with
     | nil => simp [veqCells] at h
     | cons y m =>
       simp only [veqCells] at h
       split at h
       ·rename_i x' y' e1 e2
        simp only [Option.some.injEq] at h; subst h
        have := veqCells_a e2
        simp only [List.map_cons,eqCells,veqCell_a e1,Option.bind_some] at this ⊢
        rw [this]; rfl
       ·cases h
theorem vun_a {op : UnOp} {x v : V} (h : vun op x = some v) : unA op x.a = some v.a := by
 unfold vun at h
 split at h
 ·simp only [Option.some.injEq] at h; subst h; rfl
 ·simp only [Option.some.injEq] at h; subst h; rfl
 ·cases h
theorem vmax2_a {x y v : V} (h : vmax2 x y = some v) : max2A x.a y.a = some v.a := by
 unfold vmax2 at h
 split at h
 ·split at h
  ·rename_i e; simp only [Option.some.injEq] at h; subst h; subst e; simp only [V.a,max2A,if_true]
  ·cases h
 ·cases h
theorem vmin2_a {x y v : V} (h : vmin2 x y = some v) : min2A x.a y.a = some v.a := by
 unfold vmin2 at h
 split at h
 ·split at h
  ·rename_i e; simp only [Option.some.injEq] at h; subst h; subst e; simp only [V.a,min2A,if_true]
  ·cases h
 ·cases h
theorem vfold_a {f : V → V → Option V} {g : A → A → Option A} (hf : ∀ x y v,f x y = some v → g x.a y.a = some v.a) : ∀ {l : List V} {a v : V},vfold f a l = some v → foldA g a.a (l.map V.a) = some v.a
 | [],a,v,h => by simp only [vfold,Option.some.injEq] at h; subst h; rfl
 | b :: l,a,v,h => by
   simp only [vfold] at h
   split at h
   ·rename_i c e
    simp only [List.map_cons,foldA,hf _ _ _ e,Option.bind_some]
    exact vfold_a hf h
   ·cases h
theorem vretok_a (d : Nat) : ∀ (l : List V) (j : Nat),(vretok d j l).map V.a = retok d j (l.map V.a)
 | [],_ => rfl
 | v :: l,j => by cases v <;> simp only [vretok,List.map_cons,V.a,retok,vretok_a d l (j + 1)]
theorem vpackR_a (d : Nat) (l : List V) : (vpackR d l).a = packR d (l.map V.a) := by
 unfold vpackR packR
 rw [← vretok_a]
 split
 ·rename_i x e; rw [e]; rfl
 ·rename_i hn
  split
  ·rename_i a e
   cases hl : vretok d 0 l with
   | nil => rw [hl] at e; simp at e
   | cons x m =>
     cases m with
     | nil => exact absurd hl (hn x)
     | cons y m => rw [hl] at e; simp at e
  ·simp only [V.a,V.as_map]
theorem visIob_a (v : V) : isIob v.a = visIob v := by cases v <;> rfl
theorem vplain_a (v : V) (h : vplain v = true) : v.a.plain = true := by cases v <;> first | rfl | (simp [vplain] at h)
theorem vplains_a : ∀ (l : List V),l.all vplain = true → A.plains (l.map V.a) = true
 | [],_ => rfl
 | v :: l,h => by
   simp only [List.all_cons,Bool.and_eq_true] at h
   simp only [List.map_cons,A.plains,vplain_a v h.1,vplains_a l h.2,Bool.and_self]
theorem vplainA_a (v : V) (h : vplainA v = true) : v.a.plain = true := by
 cases v <;> first
  | rfl
  | (simp [vplainA,vplain] at h; done)
  | (simp only [V.a,A.plain,V.as_map]; exact vplains_a _ h)
theorem vresStay_a (v : V) (h : vresStay v = true) : resStay v.a = true := by
 cases v <;> first
  | rfl
  | (exact vplainA_a _ h)
  | (simp [vresStay,vplainA,vplain] at h; done)
theorem vowned1_a (v : V) : owned1 v.a = vowned1 v := by cases v <;> rfl
theorem vowned_a (v : V) : owned v.a = vowned v := by
 cases v <;> first
  | rfl
  | (simp only [V.a,owned,vowned,V.as_map]; exact any_a vowned1_a _)
def nown1 : CT → A → A
 | .own t,.nils z => if z = t.z then .own z [] else .nils z
 | _,a => a
def nownC : CTs → List A → List A
 | .cons c cs,a :: l => nown1 c a :: nownC cs l
 | _,l => l
def nownE : ET → A → A
 | .one c,a => nown1 c a
 | .agg cs,.agg l => .agg (nownC cs l)
 | _,a => a
def nsub (t : ET) (cs : List A) (c : Nat) : A :=
 match t with
 | .one _ => (match (cs[c]?).getD .any with | .agg _ => .any | a => a)
 | .agg us => .agg ((cs.drop c).take us.len)
def normE : List ET → List A → List A
 | t :: ts,.ptr cs c :: l => .ptr (nsub t cs c).cells 0 :: normE ts l
 | _,l => l
def MT.norm : MT → A → A
 | .fn _ ts,.fn g l => .fn g (normE ts l)
 | .p t,.ptr cs c => .ptr (nsub t cs c).cells 0
 | .box t,.iob z [x] => .iob z [nownE t x]
 | _,a => a
def MT.enc (j : Nat) (m : MT) (x : m.ty) : A := (m.v j x).a
def normU : List MT → List A → List A
 | m :: ms,a :: l => m.norm a :: normU ms l
 | _,l => l
def encU (ms : List MT) (x : tysU ms) : List A := (vsU 0 ms x).map V.a
theorem vown1_a (c : CT) (v : V) : (vown1 c v).a = nown1 c v.a := by
 cases c with
 | own t => cases v <;> first | rfl | (simp only [vown1,V.a,nown1]; split <;> first | (rename_i h; subst h; rfl) | rfl)
 | _ => cases v <;> rfl
theorem vownC_a : ∀ (cs : CTs) (l : List V),(vownC cs l).map V.a = nownC cs (l.map V.a)
 | .nil,l => by cases l <;> rfl
 | .cons c cs,[] => rfl
 | .cons c cs,v :: l => by simp only [vownC,List.map_cons,nownC,vown1_a,vownC_a cs l]
theorem vownE_a (t : ET) (v : V) : (vownE t v).a = nownE t v.a := by
 cases t with
 | one c => exact vown1_a c v
 | agg cs => cases v <;> first | rfl | (simp only [vownE,V.a,nownE,V.as_map,vownC_a])
theorem vsub_a (t : ET) (cs : List V) (c : Nat) : (vsub t cs c).a = nsub t (cs.map V.a) c := by
 cases t with
 | one _ =>
   simp only [vsub,nsub,← nthV_a]
   cases nthV cs c <;> rfl
 | agg us => simp only [vsub,nsub,V.a,V.as_map,List.map_take,List.map_drop]
theorem ofE_a : ∀ {ts : List ET} {l : List V} {x : tysE ts},ofE ts l = some x → normE ts (l.map V.a) = (vsE ts x).map V.a
 | [],[],_,_ => rfl
 | [],_ :: _,_,h => by simp [ofE] at h
 | t :: ts,[],_,h => by simp [ofE] at h
 | t :: ts,v :: l,x,h => by
   cases v <;> first
    | (simp [ofE] at h; done)
    | skip
   rename_i cs c
   simp only [ofE] at h
   split at h
   ·rename_i y z e1 e2
    simp only [Option.some.injEq] at h; subst h
    have := V.toET_a e1
    simp only [List.map_cons,V.a,normE,vsE,V.as_map,ofE_a e2,List.cons.injEq,A.ptr.injEq,and_true]
    rw [← vsub_a,this,ET.vs_a]
   ·cases h
theorem MT.of_a {m : MT} {v : V} {x : m.ty} (hm : ∀ t,m ≠ .tok t) (h : m.of v = some x) (j : Nat) : m.norm v.a = m.enc j x := by
 cases m with
 | d t =>
   simp only [MT.of] at h
   rw [MT.enc,MT.v,ET.v_a,← V.toET_a h]
   cases v <;> rfl
 | p t =>
   cases v <;> simp only [MT.of] at h <;> first | cases h | skip
   rename_i cs c
   have := V.toET_a h
   simp only [V.a,MT.norm,MT.enc,MT.v,V.as_map]
   rw [← vsub_a,this,ET.vs_a]
 | tok t => exact absurd rfl (hm t)
 | box t =>
   cases v <;> simp only [MT.of] at h <;> first | cases h | skip
   rename_i z y
   split at h
   ·rename_i hz
    subst hz
    have := V.toET_a h
    simp only [V.a,MT.norm,MT.enc,MT.v]
    rw [← vownE_a,this,ET.v_a]
   ·cases h
 | ios t =>
   cases v <;> simp only [MT.of] at h <;> first | cases h | skip
   obtain ⟨rfl,h⟩ := castL_eq h
   cases h
   rfl
 | fn f ts =>
   cases v <;> simp only [MT.of] at h <;> first | cases h | skip
   split at h
   ·rename_i e
    subst e
    simp only [V.a,MT.norm,MT.enc,MT.v,V.as_map,ofE_a h]
   ·cases h
 | gone =>
   cases v <;> simp only [MT.of] at h <;> first | cases h | skip
   rfl
theorem noTok_cons {m : MT} {ms : List MT} (h : noTok (m :: ms) = true) : (∀ t,m ≠ .tok t) ∧ noTok ms = true := by
 cases m <;> simp [noTok] at h ⊢ <;> exact h
theorem encU_j : ∀ (ms : List MT) (x : tysU ms) (j j' : Nat),noTok ms = true → (vsU j ms x).map V.a = (vsU j' ms x).map V.a
 | [],_,_,_,_ => rfl
 | m :: ms,x,j,j',h => by
   obtain ⟨h1,h2⟩ := noTok_cons h
   simp only [vsU,List.map_cons,encU_j ms x.2 (j + 1) (j' + 1) h2,List.cons.injEq,and_true]
   cases m <;> first | rfl | exact absurd rfl (h1 _)
theorem ofU_a : ∀ {ms : List MT} {l : List V} {x : tysU ms},noTok ms = true → ofU ms l = some x → normU ms (l.map V.a) = encU ms x
 | [],[],_,_,_ => rfl
 | [],_ :: _,_,_,h => by simp [ofU] at h
 | m :: ms,[],_,_,h => by simp [ofU] at h
 | m :: ms,v :: l,x,ht,h => by
   obtain ⟨h1,h2⟩ := noTok_cons ht
   simp only [ofU] at h
   split at h
   ·rename_i y z e1 e2
    simp only [Option.some.injEq] at h; subst h
    simp only [List.map_cons,normU,encU,vsU,MT.of_a h1 e1 0,ofU_a h2 e2,List.cons.injEq]
    exact ⟨rfl,encU_j ms z 0 1 h2⟩
   ·cases h
theorem vsE_inj : ∀ {ts : List ET} {x y : tysE ts},(vsE ts x).map V.a = (vsE ts y).map V.a → x = y
 | [],_,_,_ => rfl
 | t :: ts,x,y,h => by
   simp only [vsE,List.map_cons,List.cons.injEq,V.a,V.as_map,A.ptr.injEq,and_true] at h
   refine Prod.ext (ET.enc_inj t _ _ ?_) (vsE_inj h.2)
   have h := h.1
   rw [← ET.vs_a,← ET.vs_a] at h
   cases t with
   | one c => simpa only [ET.enc,CT.enc_cells,List.cons.injEq,and_true] using h
   | agg cs => simpa only [ET.enc,A.cells,A.agg.injEq] using h
theorem MT.enc_inj {m : MT} {x y : m.ty} {j : Nat} (h : m.enc j x = m.enc j y) : x = y := by
 cases m with
 | d t => exact ET.enc_inj t x y (by simpa only [MT.enc,MT.v,ET.v_a] using h)
 | p t =>
   simp only [MT.enc,MT.v,V.a,V.as_map,A.ptr.injEq,and_true] at h
   refine ET.enc_inj t x y ?_
   rw [← ET.vs_a,← ET.vs_a] at h
   cases t with
   | one c => simpa only [ET.enc,CT.enc_cells,List.cons.injEq,and_true] using h
   | agg cs => simpa only [ET.enc,A.cells,A.agg.injEq] using h
 | tok t => simp only [MT.enc,MT.v,V.a,A.tok.injEq,true_and] at h; exact map_inj' (ET.enc_inj t) h
 | box t =>
   simp only [MT.enc,MT.v,V.a,ET.v_a,A.iob.injEq,true_and,List.cons.injEq,and_true] at h
   exact ET.enc_inj t x y h
 | ios t => simp only [MT.enc,MT.v,V.a,A.ios.injEq,true_and] at h; exact map_inj' (ET.enc_inj t) h
 | fn f ts => simp only [MT.enc,MT.v,V.a,V.as_map,A.fn.injEq,true_and] at h; exact vsE_inj h
 | gone => rfl
theorem encU_inj' : ∀ {ms : List MT} {x y : tysU ms} {j : Nat},(vsU j ms x).map V.a = (vsU j ms y).map V.a → x = y
 | [],_,_,_,_ => rfl
 | m :: ms,x,y,j,h => by
   simp only [vsU,List.map_cons,List.cons.injEq] at h
   exact Prod.ext (MT.enc_inj (j := j) h.1) (encU_inj' h.2)
def resA (c : Callee) (y : tys1 (c.rs ++ c.os)) : List A × List A :=
 (((vs1 0 (c.rs ++ c.os) y).take c.rs.length).map V.a,((vs1 0 (c.rs ++ c.os) y).drop c.rs.length).map V.a)
open Classical in
noncomputable def Callee.cf (c : Callee) (as : List A) : Option (List A × List A) :=
 if h : ∃ x,noTok c.ps = true ∧ normU c.ps as = encU c.ps x then (c.f h.choose).map (resA c) else none
noncomputable def cfD (D : List (Nat × Callee)) : CF := fun g as => (dget D g).bind fun c => c.cf as
theorem Callee.cf_eq {c : Callee} {as : List A} {x : tysU c.ps} (ht : noTok c.ps = true) (h : normU c.ps as = encU c.ps x) : c.cf as = (c.f x).map (resA c) := by
 unfold Callee.cf
 have he : ∃ x,noTok c.ps = true ∧ normU c.ps as = encU c.ps x := ⟨x,ht,h⟩
 rw [dif_pos he]
 have : he.choose = x := encU_inj' (he.choose_spec.2.symm.trans h)
 rw [this]
end
end Go.Ab
namespace Go.Ab
def ioD (D : List (Nat × Callee)) (g : Nat) : List Bool := vios D g
section
variable {R : Type} {D : List (Nat × Callee)} {H : List (Nat × ET)}
theorem vcf_ok (D : List (Nat × Callee)) (g : Nat) (as : List V) : Ok1 (R := R) (fun k : List V × List V → Option R => vcf D g as fun a b => k (a,b)) fun p => cfD D g (as.map V.a) = some (p.1.map V.a,p.2.map V.a) := by
 unfold vcf
 cases hc : dget D g with
 | none => exact Ok1.no
 | some c =>
   dsimp only
   cases hx : ofU c.ps as with
   | none => exact Ok1.no
   | some x =>
     dsimp only
     refine Ok1.ifc fun ht => Ok1.bind fun y hy => Ok1.mk ?_
     simp only [cfD,hc,Option.bind_some,Callee.cf_eq ht (ofU_a ht hx),hy,Option.map_some,resA]
theorem vargs0_ok (st : VSt) : ∀ l : List Opd,Ok1 (R := R) (vargs0 st l) fun as => args0 st.a l = some (as.map V.a) ∧ l.all Opd.ok = true
 | [] => Ok1.mk (x := []) ⟨rfl,rfl⟩
 | x :: l => by
   have e : vargs0 (R := R) st (x :: l) = fun k => if x.ok then vtoData st.r (x.vv st) fun a => vargs0 st l fun r => k (a :: r) else none := rfl
   rw [e]
   refine Ok1.ifc fun hx => ?_
   refine Ok1.seq (F := vtoData st.r (x.vv st)) (G := fun a k => vargs0 st l fun r => k (a :: r)) (vtoData_ok st _) fun a ha => ?_
   refine Ok1.seq (F := vargs0 st l) (G := fun r k => k (a :: r)) (vargs0_ok st l) fun r hr => Ok1.mk ?_
   simp only [args0,← Opd.vv_a st hx,ha,hr.1,Option.bind_some,Option.map_some,List.map_cons,List.all_cons,hx,hr.2,Bool.and_self,and_self]
theorem vcase_ok {α : Type} {P : α → Prop} {F : Nat → (α → Option R) → Option R} (n : Int) (len : Nat) : ∀ (m j : Nat),j + m = len → (∀ i : Nat,i < len → n = (i : Int) → Ok1 (F i) P) → Ok1 (fun k => vcase n (fun i => F i k) m j) P
 | 0,j,_,_ => by unfold vcase; exact Ok1.no
 | m + 1,j,hj,hF => by
   unfold vcase
   refine Ok1.ite (fun h => hF j (by omega) (by simpa using h)) fun _ => ?_
   exact vcase_ok n len m (j + 1) (by omega) hF
theorem vevalV_ok (d : Option Nat) (st : VSt) (o : O) : Ok1 (R := R) (vevalV D H d st o) fun v => evalV (cfD D) (ioD D) d st.a o = some v.a := by
 cases o with
 | mv x =>
   unfold vevalV; dsimp only
   refine Ok1.ifc fun hx => Ok1.mk ?_
   simp only [evalV,Opd.vv_a st hx]
 | asg x =>
   unfold vevalV; dsimp only
   refine Ok1.ifc fun hx => ?_
   cases hv : x.vv st <;> (try dsimp only) <;> first
    | exact Ok1.no
    | (refine Ok1.mk ?_; simp only [evalV,← Opd.vv_a st hx,hv,V.a])
 | pick c a b =>
   unfold vevalV; dsimp only
   refine Ok1.ifc fun hx => ?_
   simp only [Bool.and_eq_true] at hx
   obtain ⟨⟨hc,ha⟩,hb⟩ := hx
   cases hv : c.vv st <;> (try dsimp only) <;> first
    | exact Ok1.no
    | skip
   refine Ok1.ite (fun h => Ok1.mk ?_) fun h => Ok1.mk ?_
   ·simp only [evalV,← Opd.vv_a st hc,hv,V.a,Opd.vv_a st ha,h,if_true]
   ·simp only [evalV,← Opd.vv_a st hc,hv,V.a,Opd.vv_a st hb,h,Bool.false_eq_true,if_false]
 | alloc z zero => unfold vevalV; exact Ok1.no
 | box z x => unfold vevalV; exact Ok1.no
 | sto n a x => unfold vevalV; exact Ok1.no
 | app z b s x => unfold vevalV; exact Ok1.no
 | build zero parts =>
   unfold vevalV; dsimp only
   refine Ok1.ifc fun hz => Ok1.vopt fun cs hcs => Ok1.mk ?_
   have h0 : (zero.map A.toV1).map V.a = zero := by
    rw [List.map_map]
    conv => rhs; rw [← List.map_id zero]
    exact List.map_congr_left fun x hx => A.toV1_a (List.all_eq_true.1 hz x hx)
   have := vfillA_a hcs
   rw [h0] at this
   simp only [evalV,this,Option.map_some,V.a,V.as_map]
 | bsl z zero n parts =>
   unfold vevalV
   cases d with
   | none => exact Ok1.no
   | some d =>
     dsimp only
     refine Ok1.vopt fun t ht => Ok1.ifc fun hc => Ok1.vopt fun z0 hz0 => Ok1.vopt fun xs hxs => Ok1.mk ?_
     simp only [Bool.and_eq_true,decide_eq_true_eq] at hc
     obtain ⟨⟨h1,h2⟩,h3⟩ := hc
     have e0 : zero = t.enc z0 := (A.toV_a h1).symm.trans (V.toET_a hz0)
     have := vfillS_a hxs
     rw [List.map_replicate,← e0] at this
     subst h2
     simp only [evalV,h3,true_and,this,Option.map_some,V.a]
     rw [if_pos (by rw [e0]; exact ET.enc_z _ _)]
 | ld n a =>
   unfold vevalV; dsimp only
   refine Ok1.ifc fun ha => ?_
   cases hv : a.vv st <;> (try dsimp only) <;> first
    | exact Ok1.no
    | skip
   ·rename_i q i c
    cases hq : rget st.r q with
    | none => exact Ok1.no
    | some R0 =>
      cases R0 with
      | var z x =>
        cases i with
        | zero =>
          dsimp only
          refine Ok1.vopt' fun v hg => ?_
          simp only [evalV,← Opd.vv_a st ha,hv,V.a,VSt.a_r,hq,Option.map_some,VR.a,Option.bind_some,List.getElem?_cons_zero,V.cells_a,vgetCells_a hg]
        | succ i => exact Ok1.no
      | sl t xs =>
        dsimp only
        refine Ok1.bind fun x hx => Ok1.vopt' fun v hg => ?_
        simp only [evalV,← Opd.vv_a st ha,hv,V.a,VSt.a_r,hq,Option.map_some,VR.a,Option.bind_some,List.getElem?_map,hx]
        rw [ET.vs_a,vgetCells_a hg]
   ·rename_i cs c
    refine Ok1.vopt' fun v hg => ?_
    simp only [evalV,← Opd.vv_a st ha,hv,V.a,V.as_map,vgetCells_a hg]
 | nilck x =>
   unfold vevalV; dsimp only
   refine Ok1.ifc fun hx => ?_
   cases hv : x.vv st <;> (try dsimp only) <;> first
    | exact Ok1.no
    | skip
   ·rename_i q i c
    cases hq : rget st.r q with
    | none => exact Ok1.no
    | some R0 =>
      refine Ok1.mk (x := V.loc q i c) ?_
      simp only [evalV,← Opd.vv_a st hx,hv,V.a,VSt.a_r,hq,Option.map_some]
   ·refine Ok1.mk ?_
    simp only [evalV,← Opd.vv_a st hx,hv,V.a]
   ·refine Ok1.mk ?_
    simp only [evalV,← Opd.vv_a st hx,hv,V.a]
 | bin op x y =>
   unfold vevalV; dsimp only
   refine Ok1.ifc fun hx => ?_
   simp only [Bool.and_eq_true] at hx
   refine (vbin_ok op (x.vv st) (y.vv st)).weak fun v hv => ?_
   simp only [evalV,← Opd.vv_a st hx.1,← Opd.vv_a st hx.2,hv]
 | eqs neq ks x y =>
   unfold vevalV; dsimp only
   refine Ok1.ifc fun hx => ?_
   simp only [Bool.and_eq_true] at hx
   cases hv : x.vv st <;> (try dsimp only) <;> first
    | exact Ok1.no
    | skip
   cases hw : y.vv st <;> (try dsimp only) <;> first
    | exact Ok1.no
    | skip
   refine Ok1.vopt fun e he => Ok1.mk ?_
   simp only [evalV,← Opd.vv_a st hx.1,← Opd.vv_a st hx.2,hv,hw,V.a,V.as_map,veqCells_a he,Option.map_some]
 | eqb neq x y =>
   unfold vevalV; dsimp only
   refine Ok1.ifc fun hx => ?_
   simp only [Bool.and_eq_true] at hx
   cases hv : x.vv st <;> (try dsimp only) <;> first
    | exact Ok1.no
    | skip
   cases hw : y.vv st <;> (try dsimp only) <;> first
    | exact Ok1.no
    | skip
   refine Ok1.mk ?_
   simp only [evalV,← Opd.vv_a st hx.1,← Opd.vv_a st hx.2,hv,hw,V.a]
 | un op x =>
   unfold vevalV; dsimp only
   refine Ok1.ifc fun hx => Ok1.vopt' fun v hv => ?_
   simp only [evalV,← Opd.vv_a st hx,vun_a hv]
 | conv c x =>
   unfold vevalV; dsimp only
   refine Ok1.ifc fun hx => ?_
   cases c with
   | int i =>
     cases hv : x.vv st <;> (try dsimp only) <;> first
      | exact Ok1.no
      | skip
     refine Ok1.mk ?_
     simp only [evalV,← Opd.vv_a st hx,hv,V.a]
   | same =>
     cases hv : x.vv st <;> (try dsimp only) <;> first
      | exact Ok1.no
      | skip
     refine Ok1.mk ?_
     simp only [evalV,← Opd.vv_a st hx,hv,V.a]
   | bytesStr =>
     dsimp only
     refine Ok1.vopt fun xs hxs => Ok1.mk ?_
     have hb : ∀ l : List Int,bytesOf (l.map fun n => A.int .u8 n) = some (l.map vu8) := by
      intro l
      induction l with
      | nil => rfl
      | cons n l ih => simp only [List.map_cons,bytesOf,ih,Option.map_some,vu8]
     have he := velems_a hxs
     simp only [evalV,← Opd.vv_a st hx,he,Option.bind_some,ET.z,if_true]
     have : (xs.map (ET.one (CT.int IntKind.u8)).enc) = xs.map fun n => A.int .u8 n := rfl
     rw [this,hb]
     rfl
   | strBytes z =>
     cases hv : x.vv st <;> (try dsimp only) <;> first
      | exact Ok1.no
      | skip
     cases d with
     | none => exact Ok1.no
     | some d =>
       dsimp only
       refine Ok1.ifc fun hz => Ok1.mk ?_
       simp only [evalV,← Opd.vv_a st hx,hv,V.a,if_pos hz,List.map_map,ET.z]
       rfl
 | fa off x =>
   unfold vevalV; dsimp only
   refine Ok1.ifc fun hx => ?_
   cases hv : x.vv st <;> (try dsimp only) <;> first
    | exact Ok1.no
    | skip
   ·rename_i q i c
    cases hq : rget st.r q with
    | none => exact Ok1.no
    | some R0 =>
      refine Ok1.mk (x := V.loc q i (c + off)) ?_
      simp only [evalV,← Opd.vv_a st hx,hv,V.a,VSt.a_r,hq,Option.map_some]
   ·refine Ok1.mk ?_
    simp only [evalV,← Opd.vv_a st hx,hv,V.a]
 | fld off n x =>
   unfold vevalV; dsimp only
   refine Ok1.ifc fun hx => ?_
   cases hv : x.vv st <;> (try dsimp only) <;> first
    | exact Ok1.no
    | skip
   refine Ok1.vopt' fun v hg => ?_
   simp only [evalV,← Opd.vv_a st hx,hv,V.a,V.as_map,vgetCells_a hg]
 | ia z x i =>
   unfold vevalV; dsimp only
   refine Ok1.ifc fun hx => ?_
   simp only [Bool.and_eq_true] at hx
   cases hi : i.vv st <;> (try dsimp only) <;> first
    | exact Ok1.no
    | skip
   rename_i ki n
   cases hv : x.vv st <;> (try dsimp only) <;> first
    | exact Ok1.no
    | skip
   ·rename_i t xs
    refine Ok1.ifc fun hz => Ok1.ifc fun hn => Ok1.bind fun y hy => Ok1.mk ?_
    simp only [decide_eq_true_eq] at hz hn
    subst hz
    simp only [evalV,← Opd.vv_a st hx.1,← Opd.vv_a st hx.2,hi,hv,V.a,V.as_map,hn,and_self,if_true,List.getElem?_map,hy,Option.map_some,ET.vs_a]
   ·rename_i q o len
    cases hq : rget st.r q with
    | none => exact Ok1.no
    | some R0 =>
      cases R0 with
      | var z x => exact Ok1.no
      | sl t xs =>
        dsimp only
        refine Ok1.ifc fun hz => Ok1.ifc fun hn => Ok1.mk ?_
        simp only [decide_eq_true_eq,Bool.and_eq_true] at hz hn
        subst hz
        simp only [evalV,← Opd.vv_a st hx.1,← Opd.vv_a st hx.2,hi,hv,V.a,VSt.a_r,hq,Option.map_some,VR.a,Option.bind_some,hn,and_self,if_true,vadd_eq]
 | iaa len z x i =>
   unfold vevalV; dsimp only
   refine Ok1.ifc fun hx => ?_
   simp only [Bool.and_eq_true] at hx
   cases hi : i.vv st <;> (try dsimp only) <;> first
    | exact Ok1.no
    | skip
   rename_i ki n
   cases hv : x.vv st <;> (try dsimp only) <;> first
    | exact Ok1.no
    | skip
   ·rename_i q j c
    cases hq : rget st.r q with
    | none => exact Ok1.no
    | some R0 =>
      dsimp only
      refine vcase_ok n len len 0 (by omega) fun m hm hn => Ok1.mk (x := V.loc q j (c + m * z)) ?_
      subst hn
      simp only [evalV,← Opd.vv_a st hx.1,← Opd.vv_a st hx.2,hi,hv,V.a,VSt.a_r,hq,Option.map_some,Int.toNat_natCast]
      rw [if_pos ⟨by omega,by omega⟩]
   ·refine vcase_ok n len len 0 (by omega) fun m hm hn => Ok1.mk ?_
    subst hn
    simp only [evalV,← Opd.vv_a st hx.1,← Opd.vv_a st hx.2,hi,hv,V.a,Int.toNat_natCast]
    rw [if_pos ⟨by omega,by omega⟩]
 | ix x i =>
   unfold vevalV; dsimp only
   refine Ok1.ifc fun hx => ?_
   simp only [Bool.and_eq_true] at hx
   cases hi : i.vv st <;> (try dsimp only) <;> first
    | exact Ok1.no
    | skip
   rename_i ki n
   cases hv : x.vv st <;> (try dsimp only) <;> first
    | exact Ok1.no
    | skip
   refine Ok1.ifc fun hn => Ok1.bind fun y hy => Ok1.mk ?_
   simp only [decide_eq_true_eq] at hn
   simp only [evalV,← Opd.vv_a st hx.1,← Opd.vv_a st hx.2,hi,hv,V.a,hn,if_true,hy,Option.map_some]
 | ixa len z n x i =>
   unfold vevalV; dsimp only
   refine Ok1.ifc fun hx => ?_
   simp only [Bool.and_eq_true] at hx
   cases hi : i.vv st <;> (try dsimp only) <;> first
    | exact Ok1.no
    | skip
   rename_i ki j
   cases hv : x.vv st <;> (try dsimp only) <;> first
    | exact Ok1.no
    | skip
   refine vcase_ok j len len 0 (by omega) fun m hm hn => Ok1.vopt' fun v hg => ?_
   subst hn
   simp only [evalV,← Opd.vv_a st hx.1,← Opd.vv_a st hx.2,hi,hv,V.a,Int.toNat_natCast,V.as_map,vgetCells_a hg]
   rw [if_pos ⟨by omega,by omega⟩]
 | slcs x lo hi =>
   unfold vevalV; dsimp only
   refine Ok1.ifc fun hx => ?_
   simp only [Bool.and_eq_true] at hx
   obtain ⟨⟨h0,h1⟩,h2⟩ := hx
   cases lo with
   | none =>
     cases hi with
     | none =>
       simp only [Option.map_none]
       cases hv : x.vv st <;> (try dsimp only) <;> first
        | exact Ok1.no
        | skip
       refine Ok1.mk ?_
       simp only [evalV,← Opd.vv_a st h0,hv,V.a,Option.map_none,Option.getD_none]
       simp
     | some h =>
       simp only [Option.map_none,Option.map_some]
       cases hh : h.vv st <;> (try dsimp only) <;> first
        | exact Ok1.no
        | skip
       cases hv : x.vv st <;> (try dsimp only) <;> first
        | exact Ok1.no
        | skip
       refine Ok1.ifc fun hc => Ok1.mk ?_
       simp only [Bool.and_eq_true,decide_eq_true_eq] at hc
       simp only [Option.all_some] at h2
       simp only [evalV,← Opd.vv_a st h0,← Opd.vv_a st h2,hv,hh,V.a,Option.map_none,Option.map_some,Option.getD_none]
       simp [hc]
   | some l =>
     simp only [Option.all_some] at h1
     cases hi with
     | none =>
       simp only [Option.map_none,Option.map_some]
       cases hl : l.vv st <;> (try dsimp only) <;> first
        | exact Ok1.no
        | skip
       cases hv : x.vv st <;> (try dsimp only) <;> first
        | exact Ok1.no
        | skip
       refine Ok1.ifc fun hc => Ok1.mk ?_
       simp only [Bool.and_eq_true,decide_eq_true_eq] at hc
       simp only [evalV,← Opd.vv_a st h0,← Opd.vv_a st h1,hv,hl,V.a,Option.map_none,Option.map_some,Option.getD_some]
       simp [hc]
     | some h =>
       simp only [Option.map_some]
       cases hl : l.vv st <;> (try dsimp only) <;> first
        | exact Ok1.no
        | skip
       cases hh : h.vv st <;> (try dsimp only) <;> first
        | exact Ok1.no
        | skip
       cases hv : x.vv st <;> (try dsimp only) <;> first
        | exact Ok1.no
        | skip
       refine Ok1.ifc fun hc => Ok1.mk ?_
       simp only [Bool.and_eq_true,decide_eq_true_eq] at hc
       simp only [Option.all_some] at h2
       simp only [evalV,← Opd.vv_a st h0,← Opd.vv_a st h1,← Opd.vv_a st h2,hv,hl,hh,V.a,Option.map_some,Option.getD_some]
       simp [hc]
 | slc z x lo hi =>
   unfold vevalV; dsimp only
   refine Ok1.ifc fun hx => ?_
   simp only [Bool.and_eq_true] at hx
   obtain ⟨⟨h0,h1⟩,h2⟩ := hx
   cases lo with
   | none =>
     cases hi with
     | none =>
       simp only [Option.map_none]
       cases hv : x.vv st <;> (try dsimp only) <;> first
        | exact Ok1.no
        | skip
       ·refine Ok1.ifc fun hz => Ok1.mk ?_
        simp only [decide_eq_true_eq] at hz
        subst hz
        simp only [evalV,← Opd.vv_a st h0,hv,V.a,Option.map_none,Option.getD_none]
        simp
       ·rename_i q o n
        cases hq : rget st.r q with
        | none => exact Ok1.no
        | some R0 =>
          cases R0 with
          | var z x => exact Ok1.no
          | sl t xs =>
            dsimp only
            refine Ok1.ifc fun hz => Ok1.mk ?_
            simp only [decide_eq_true_eq] at hz
            subst hz
            simp only [evalV,← Opd.vv_a st h0,hv,V.a,Option.map_none,Option.getD_none,VSt.a_r,hq,Option.map_some,VR.a,Option.bind_some]
            simp
     | some h =>
       simp only [Option.all_some] at h2
       simp only [Option.map_none,Option.map_some]
       cases hh : h.vv st <;> (try dsimp only) <;> first
        | exact Ok1.no
        | skip
       cases hv : x.vv st <;> (try dsimp only) <;> first
        | exact Ok1.no
        | skip
       ·refine Ok1.ifc fun hz => Ok1.ifc fun hc => Ok1.mk ?_
        simp only [Bool.and_eq_true,decide_eq_true_eq] at hc hz
        subst hz
        simp only [evalV,← Opd.vv_a st h0,← Opd.vv_a st h2,hv,hh,V.a,Option.map_none,Option.map_some,Option.getD_none]
        simp [hc,List.map_take]
       ·rename_i q o n
        cases hq : rget st.r q with
        | none => exact Ok1.no
        | some R0 =>
          cases R0 with
          | var z x => exact Ok1.no
          | sl t xs =>
            dsimp only
            refine Ok1.ifc fun hz => Ok1.ifc fun hc => Ok1.mk ?_
            simp only [Bool.and_eq_true,decide_eq_true_eq] at hc hz
            subst hz
            simp only [evalV,← Opd.vv_a st h0,← Opd.vv_a st h2,hv,hh,V.a,Option.map_none,Option.getD_none,VSt.a_r,hq,Option.map_some,VR.a,Option.bind_some]
            simp [hc]
   | some l =>
     simp only [Option.all_some] at h1
     cases hi with
     | none =>
       simp only [Option.map_none,Option.map_some]
       cases hl : l.vv st <;> (try dsimp only) <;> first
        | exact Ok1.no
        | skip
       cases hv : x.vv st <;> (try dsimp only) <;> first
        | exact Ok1.no
        | skip
       ·refine Ok1.ifc fun hz => Ok1.ifc fun hc => Ok1.mk ?_
        simp only [Bool.and_eq_true,decide_eq_true_eq] at hc hz
        subst hz
        simp only [evalV,← Opd.vv_a st h0,← Opd.vv_a st h1,hv,hl,V.a,Option.map_none,Option.map_some,Option.getD_some]
        simp [hc,List.map_drop]
       ·rename_i q o n
        cases hq : rget st.r q with
        | none => exact Ok1.no
        | some R0 =>
          cases R0 with
          | var z x => exact Ok1.no
          | sl t xs =>
            dsimp only
            refine Ok1.ifc fun hz => Ok1.ifc fun hc => Ok1.mk ?_
            simp only [Bool.and_eq_true,decide_eq_true_eq] at hc hz
            subst hz
            simp only [evalV,← Opd.vv_a st h0,← Opd.vv_a st h1,hv,hl,V.a,Option.map_none,Option.getD_some,VSt.a_r,hq,Option.map_some,VR.a,Option.bind_some,vadd_eq]
            simp [hc]
     | some h =>
       simp only [Option.all_some] at h2
       simp only [Option.map_some]
       cases hl : l.vv st <;> (try dsimp only) <;> first
        | exact Ok1.no
        | skip
       cases hh : h.vv st <;> (try dsimp only) <;> first
        | exact Ok1.no
        | skip
       cases hv : x.vv st <;> (try dsimp only) <;> first
        | exact Ok1.no
        | skip
       ·refine Ok1.ifc fun hz => Ok1.ifc fun hc => Ok1.mk ?_
        simp only [Bool.and_eq_true,decide_eq_true_eq] at hc hz
        subst hz
        simp only [evalV,← Opd.vv_a st h0,← Opd.vv_a st h1,← Opd.vv_a st h2,hv,hl,hh,V.a,Option.map_some,Option.getD_some]
        simp [hc,List.map_drop,List.map_take]
       ·rename_i q o n
        cases hq : rget st.r q with
        | none => exact Ok1.no
        | some R0 =>
          cases R0 with
          | var z x => exact Ok1.no
          | sl t xs =>
            dsimp only
            refine Ok1.ifc fun hz => Ok1.ifc fun hc => Ok1.mk ?_
            simp only [Bool.and_eq_true,decide_eq_true_eq] at hc hz
            subst hz
            simp only [evalV,← Opd.vv_a st h0,← Opd.vv_a st h1,← Opd.vv_a st h2,hv,hl,hh,V.a,Option.map_some,Option.getD_some,VSt.a_r,hq,VR.a,Option.bind_some,vadd_eq]
            simp [hc]
 | len x =>
   unfold vevalV; dsimp only
   refine Ok1.ifc fun hx => Ok1.vopt fun n hn => Ok1.mk ?_
   simp only [evalV,← Opd.vv_a st hx,vlen_a hn,Option.map_some,V.a]
 | lens x =>
   unfold vevalV; dsimp only
   refine Ok1.ifc fun hx => ?_
   cases hv : x.vv st <;> (try dsimp only) <;> first
    | exact Ok1.no
    | skip
   refine Ok1.mk ?_
   simp only [evalV,← Opd.vv_a st hx,hv,V.a]
 | max xs =>
   unfold vevalV; dsimp only
   refine Ok1.ifc fun hx => ?_
   have e := Opd.vvs_a st hx
   cases hl : xs.map (Opd.vv st) with
   | nil => exact Ok1.no
   | cons a l =>
     dsimp only
     refine Ok1.vopt' fun v hv => ?_
     simp only [evalV,e,hl,List.map_cons,vfold_a (fun _ _ _ => vmax2_a) hv]
 | min xs =>
   unfold vevalV; dsimp only
   refine Ok1.ifc fun hx => ?_
   have e := Opd.vvs_a st hx
   cases hl : xs.map (Opd.vv st) with
   | nil => exact Ok1.no
   | cons a l =>
     dsimp only
     refine Ok1.vopt' fun v hv => ?_
     simp only [evalV,e,hl,List.map_cons,vfold_a (fun _ _ _ => vmin2_a) hv]
 | mks z bytes zero l c =>
   unfold vevalV; dsimp only
   refine Ok1.ifc fun hx => ?_
   simp only [Bool.and_eq_true] at hx
   obtain ⟨⟨h0,h1⟩,h2⟩ := hx
   cases d with
   | none => exact Ok1.no
   | some d =>
     cases hl : l.vv st <;> (try dsimp only) <;> first
      | exact Ok1.no
      | skip
     cases hc : c.vv st <;> (try dsimp only) <;> first
      | exact Ok1.no
      | skip
     rename_i kl n kc m
     refine Ok1.vopt fun t ht => Ok1.ifc fun hz => Ok1.vopt fun z0 hz0 => Ok1.ifc fun hn => ?_
     simp only [Bool.and_eq_true,decide_eq_true_eq] at hz hn
     obtain ⟨⟨⟨rfl,rfl⟩,rfl⟩,hb⟩ := hz
     have e0 : zero = t.enc z0 := (A.toV_a h2).symm.trans (V.toET_a hz0)
     refine Ok1.mk ?_
     simp only [evalV,← Opd.vv_a st h0,← Opd.vv_a st h1,hl,hc,V.a]
     have hlt : m < (lim : Int) := by have h1 := hn.1.1; have h2 := hn.1.2; have h3 := hn.2; omega
     rw [if_pos ⟨hn.1.1,hn.1.2,hlt,hb,by rw [e0]; exact ET.enc_z _ _⟩,List.map_replicate,← e0]
 | mkf f caps =>
   unfold vevalV; dsimp only
   refine Ok1.ifc fun hx => Ok1.mk ?_
   simp only [Bool.and_eq_true] at hx
   have e := Opd.vvs_a st hx.1
   have : ((caps.map (Opd.vv st)).map V.a).all (fun x => solid st.a.r x && !anyTok x) = true := by
    rw [List.all_map]
    refine Eq.trans ?_ hx.2
    congr 1
    funext x
    simp only [Function.comp,vsolid_a,vanyTok_a]
   simp only [evalV,e,this,if_true,V.a,V.as_map]
 | call f args =>
   unfold vevalV; dsimp only
   refine Ok1.ifc fun hx => ?_
   cases hv : f.vv st <;> (try dsimp only) <;> first
    | exact Ok1.no
    | skip
   rename_i g caps
   refine Ok1.ite (fun _ => Ok1.no) fun hio => ?_
   refine Ok1.seq (F := vargs0 st args) (G := fun as (k : V → Option R) => if caps.any vanyTok then none else vtoDatas st.r caps fun cs => vcf D g (as ++ cs) fun rs _ =>
    if (rs.all vresStay || !((args.map (Opd.vv st)).any vowned || caps.any vowned1)) && !rs.any visIob then k (vpackR (match d with | some d => d | none => 0) rs) else none) (vargs0_ok st args) fun as has => ?_
   refine Ok1.ite (fun _ => Ok1.no) fun ht => ?_
   refine Ok1.seq (F := vtoDatas st.r caps) (G := fun cs (k : V → Option R) => vcf D g (as ++ cs) fun rs _ =>
    if (rs.all vresStay || !((args.map (Opd.vv st)).any vowned || caps.any vowned1)) && !rs.any visIob then k (vpackR (match d with | some d => d | none => 0) rs) else none) (vtoDatas_ok st caps) fun cs hcs => ?_
   refine Ok1.seq (F := fun k : List V × List V → Option R => vcf D g (as ++ cs) fun a b => k (a,b)) (G := fun p (k : V → Option R) =>
    if (p.1.all vresStay || !((args.map (Opd.vv st)).any vowned || caps.any vowned1)) && !p.1.any visIob then k (vpackR (match d with | some d => d | none => 0) p.1) else none) (vcf_ok D g (as ++ cs)) fun p hp => ?_
   refine Ok1.ifc fun hc => Ok1.mk ?_
   have e := Opd.vvs_a st has.2
   simp only [evalV,← Opd.vv_a st hx,hv,V.a,V.as_map]
   rw [if_neg (show ¬ ((ioD D g).any id = true) from hio)]
   simp only [has.1,Option.bind_some,any_a vanyTok_a,if_neg ht,hcs,← List.map_append,hp]
   rw [if_pos,vpackR_a]
   ·cases d <;> rfl
   ·simp only [Bool.and_eq_true,Bool.or_eq_true] at hc ⊢
    refine ⟨hc.1.imp (fun h => ?_) fun h => ?_,?_⟩
    ·rw [List.all_eq_true] at h ⊢
     intro x hx
     obtain ⟨v,hv,rfl⟩ := List.mem_map.1 hx
     exact vresStay_a v (h v hv)
    ·rw [e,any_a vowned_a,any_a vowned1_a]; exact h
    ·rw [any_a visIob_a]; exact hc.2
 | ext x i =>
   unfold vevalV; dsimp only
   refine Ok1.ifc fun hx => ?_
   cases hv : x.vv st <;> (try dsimp only) <;> first
    | exact Ok1.no
    | skip
   refine Ok1.vopt' fun v hg => ?_
   simp only [evalV,← Opd.vv_a st hx,hv,V.a,V.as_map,List.getElem?_map,hg,Option.map_some]
end
end Go.Ab
namespace Go.Ab
theorem vlend1_a {st : VSt} {v w : V} (h : vlend1 st.r v = some w) : lend1 st.a.r v.a = some w.a := by
 unfold vlend1 at h
 split at h
 ·rename_i q o n
  split at h
  ·rename_i t xs e
   simp only [Option.some.injEq] at h; subst h
   simp only [V.a,lend1,VSt.a_r,e,Option.map_some,VR.a,part_a]
  ·cases h
 ·rename_i h1
  split at h
  ·rename_i hp
   simp only [Option.some.injEq] at h; subst h
   have : ∀ a : A,(∀ q o n,a ≠ .view q o n) → lend1 st.a.r a = if pureC a then some a else none := fun a ha => by
    unfold lend1
    split
    ·exact absurd rfl (ha _ _ _)
    ·rfl
   rw [this,vpureC_a,if_pos hp]
   intro q o n e; cases v <;> simp [V.a] at e; exact h1 _ _ _ rfl
  ·cases h
theorem vlends_a {st : VSt} : ∀ {l m : List V},vlends st.r l = some m → lends st.a.r (l.map V.a) = some (m.map V.a)
 | [],m,h => by simp only [vlends,Option.some.injEq] at h; subst h; rfl
 | a :: l,m,h => by
   simp only [vlends] at h
   split at h
   ·rename_i x xs e1 e2
    simp only [Option.some.injEq] at h; subst h
    simp only [List.map_cons,lends,vlend1_a e1,vlends_a e2,Option.bind_some,Option.map_some]
   ·cases h
theorem vtake1_a {q c : Nat} {st st1 : VSt} {v w : V} (h : vtake1 q c st v = some (w,st1)) : take1 q c st.a v.a = some (w.a,st1.a) := by
 unfold vtake1 at h
 split at h
 ·rename_i t xs
  split at h
  ·rename_i hc
   simp only [Option.some.injEq,Prod.mk.injEq] at h
   obtain ⟨rfl,rfl⟩ := h
   simp only [V.a,take1,if_pos hc,List.length_map,VSt.setRoot_a,VSt.kill_a,Option.map_some,VR.a]
  ·cases h
 ·rename_i h1
  split at h
  ·rename_i hp
   simp only [Option.some.injEq,Prod.mk.injEq] at h
   obtain ⟨rfl,rfl⟩ := h
   have : ∀ a : A,(∀ z xs,a ≠ .own z xs) → take1 q c st.a a = if pureC a then some (a,st.a) else none := fun a ha => by
    unfold take1
    split
    ·exact absurd rfl (ha _ _)
    ·rfl
   rw [this,vpureC_a,if_pos hp]
   intro z xs e; cases v <;> simp [V.a] at e; exact h1 _ _ rfl
  ·cases h
theorem vtakes_a {q : Nat} : ∀ {l m : List V} {c : Nat} {st st1 : VSt},vtakes q c st l = some (m,st1) → takes q c st.a (l.map V.a) = some (m.map V.a,st1.a)
 | [],m,c,st,st1,h => by
   simp only [vtakes,Option.some.injEq,Prod.mk.injEq] at h
   obtain ⟨rfl,rfl⟩ := h; rfl
 | v :: l,m,c,st,st1,h => by
   simp only [vtakes] at h
   split at h
   ·rename_i x st2 e1
    split at h
    ·rename_i xs st3 e2
     simp only [Option.some.injEq,Prod.mk.injEq] at h
     obtain ⟨rfl,rfl⟩ := h
     simp only [List.map_cons,takes,vtake1_a e1,Option.bind_some,vtakes_a e2,Option.map_some]
    ·cases h
   ·cases h
theorem vtakeVar_a {st st1 : VSt} {q z : Nat} {x : V} (h : vtakeVar st q z x = some st1) : takeVar st.a q z x.a = some st1.a := by
 unfold vtakeVar at h
 split at h
 ·rename_i hc
  split at h
  ·rename_i cs st2 e
   simp only [Option.some.injEq] at h; subst h
   have := vtakes_a e
   rw [VSt.setRoot_a,VSt.kill_a] at this
   simp only [Option.map_none] at this
   simp only [takeVar,V.cells_a,List.length_map,if_pos hc,this,Option.map_some,VSt.setRoot_a,VSt.kill_a,VR.a,vreCell_a]
  ·cases h
 ·cases h
theorem VSt.absorb1_a {st st1 : VSt} {q c j : Nat} {w : V} (h : st.absorb1 q c j = some (w,st1)) : st.a.absorb1 q c j = some (w.a,st1.a) := by
 unfold VSt.absorb1 at h
 unfold St.absorb1
 rw [VSt.a_t,← vcomp_a]
 split at h
 ·rename_i k t xs e
  split at h
  ·rename_i hc
   simp only [Option.some.injEq,Prod.mk.injEq] at h
   obtain ⟨rfl,rfl⟩ := h
   rw [e]
   simp only [V.a,if_pos hc,List.length_map,VSt.setRoot_a,VSt.kill_a,VSt.killTok_a,Option.map_some,VR.a]
  ·cases h
 ·rename_i s o n e
  rw [e]
  simp only [V.a,VSt.a_r,Option.isSome_map]
  split at h
  ·rename_i hc
   simp only [Option.some.injEq,Prod.mk.injEq] at h
   obtain ⟨rfl,rfl⟩ := h
   rw [if_pos hc]; rfl
  ·rename_i hc
   rw [if_neg hc]
   split at h
   ·rename_i st2 e2
    split at h
    ·rename_i hp
     simp only [Option.some.injEq,Prod.mk.injEq] at h
     obtain ⟨rfl,rfl⟩ := h
     simp only [VSt.pin1_a e2,Option.bind_some,VSt.a_t,← vcomp_a,vpureC_a,hp,if_true,vnormC_a]
    ·cases h
   ·cases h
 ·rename_i z e
  simp only [Option.some.injEq,Prod.mk.injEq] at h
  obtain ⟨rfl,rfl⟩ := h
  rw [e]; rfl
 ·rename_i h1 h2 h3
  split at h
  ·rename_i hp
   simp only [Option.some.injEq,Prod.mk.injEq] at h
   obtain ⟨rfl,rfl⟩ := h
   revert h1 h2 h3 hp
   generalize vcomp (vget st.t gs) j = v
   intro h1 h2 h3 hp
   have hp' := hp
   rw [← vpureC_a] at hp'
   cases v <;> first
    | exact absurd rfl (h1 _ _ _)
    | exact absurd rfl (h2 _ _ _)
    | exact absurd rfl (h3 _)
    | (simp only [V.a] at hp' ⊢; rw [if_pos hp']; rfl)
    | (simp [vpureC] at hp; done)
  ·cases h
theorem VSt.absorbs_a {q c : Nat} : ∀ {n j : Nat} {st st1 : VSt} {vs : List V},st.absorbs q c j n = some (vs,st1) → st.a.absorbs q c j n = some (vs.map V.a,st1.a)
 | 0,j,st,st1,vs,h => by
   simp only [VSt.absorbs,Option.some.injEq,Prod.mk.injEq] at h
   obtain ⟨rfl,rfl⟩ := h; rfl
 | n + 1,j,st,st1,vs,h => by
   simp only [VSt.absorbs] at h
   split at h
   ·rename_i x st2 e1
    split at h
    ·rename_i xs st3 e2
     simp only [Option.some.injEq,Prod.mk.injEq] at h
     obtain ⟨rfl,rfl⟩ := h
     simp only [St.absorbs,VSt.absorb1_a e1,Option.bind_some,VSt.absorbs_a e2,Option.map_some,List.map_cons]
    ·cases h
   ·cases h
theorem vblank_a (e : V) (c n : Nat) : (vblank e c n).a = blank e.a c n := by
 simp only [vblank,blank,vreCell_a,V.cells_a,List.map_append,List.map_take,List.map_drop,List.map_replicate,V.a]
theorem vlandR_a {st st1 : VSt} {d : Option Nat} {rs : List V} (h : vlandR st d rs = some st1) : landR st.a d (rs.map V.a) = some st1.a := by
 unfold vlandR at h
 split at h
 ·rename_i z x d
  split at h
  ·rename_i st2 e
   simp only [Option.some.injEq] at h; subst h
   simp only [List.map_cons,List.map_nil,V.a,landR,vtakeVar_a e,Option.map_some,VSt.put_a]
  ·cases h
 ·rename_i hn
  split at h
  ·cases h
  ·rename_i hi
   simp only [Option.some.injEq] at h; subst h
   have : ∀ (l : List A) (d : Option Nat),(∀ z x e,l = [A.iob z [x]] → d = some e → False) → landR st.a d l = if l.any isIob then none else some (st.a.put d (packR (d.getD 0) l)) := fun l d hl => by
    unfold landR
    split
    ·exact absurd rfl (fun h => hl _ _ _ h rfl)
    ·rfl
   rw [this,any_a visIob_a,if_neg hi,VSt.put_a,vpackR_a]
   ·cases d <;> rfl
   ·intro z x e h1 h2
    subst h2
    rcases rs with _ | ⟨v,_ | ⟨w,l⟩⟩ <;> simp at h1
    cases v <;> simp [V.a] at h1
    exact hn _ _ _ rfl rfl
theorem rget_less (r : List (Nat × Option VR)) (ns : List Nat) (i : Nat) : rget (vless r ns) i = if ns.contains i then none else rget r i := by
 induction r with
 | nil => simp [vless,rget]
 | cons p l ih =>
   simp only [vless,List.map_cons] at ih ⊢
   by_cases hi : i = p.1
   ·subst hi
    by_cases hc : ns.contains p.1
    ·simp only [hc,if_true,rget]
    ·simp only [hc,if_false,Bool.false_eq_true,rget,if_true]
   ·have : ∀ v,rget ((p.1,v) :: l.map fun p => if ns.contains p.1 then (p.1,none) else p) i = rget (l.map fun p => if ns.contains p.1 then (p.1,none) else p) i := fun v => by simp only [rget,hi,if_false]
    split
    ·rw [this]; simp only [rget,hi,if_false]; exact ih
    ·rw [show p = (p.1,p.2) from rfl,this]; simp only [rget,hi,if_false]; exact ih
theorem rget_only (r : List (Nat × Option VR)) (ns : List Nat) (i : Nat) : rget (vonly r ns) i = if ns.contains i then rget r i else none := by
 induction r with
 | nil => simp [vonly,rget]
 | cons p l ih =>
   simp only [vonly,List.map_cons] at ih ⊢
   by_cases hi : i = p.1
   ·subst hi
    by_cases hc : ns.contains p.1
    ·simp only [hc,if_true,rget]
    ·simp only [hc,if_false,Bool.false_eq_true,rget,if_true]
   ·have : ∀ v,rget ((p.1,v) :: l.map fun p => if ns.contains p.1 then p else (p.1,none)) i = rget (l.map fun p => if ns.contains p.1 then p else (p.1,none)) i := fun v => by simp only [rget,hi,if_false]
    split
    ·rw [show p = (p.1,p.2) from rfl,this]; simp only [rget,hi,if_false]; exact ih
    ·rw [this]; simp only [rget,hi,if_false]; exact ih
theorem VSt.less_a (st : VSt) (t : List (Nat × V)) (ns : List Nat) : (VSt.mk t (vless st.r ns)).a = { t := fun i => (vget t i).a,r := less st.a.r ns } := by
 refine St.ext' (fun i => rfl) fun i => ?_
 simp only [VSt.a_r,rget_less,less]
 split <;> rfl
theorem VSt.only_a (st : VSt) (t : List (Nat × V)) (ns : List Nat) : (VSt.mk t (vonly st.r ns)).a = { t := fun i => (vget t i).a,r := only st.a.r ns } := by
 refine St.ext' (fun i => rfl) fun i => ?_
 simp only [VSt.a_r,rget_only,only]
 split <;> rfl
theorem vrootOf1_a (v : V) : rootOf1 v.a = vrootOf1 v := by cases v <;> rfl
theorem flatMap_a {f : A → List Nat} {g : V → List Nat} (h : ∀ v,f v.a = g v) (l : List V) : (l.map V.a).flatMap f = l.flatMap g := by
 induction l with
 | nil => rfl
 | cons v l ih => simp only [List.map_cons,List.flatMap_cons,h,ih]
theorem CT.enc_root (c : CT) (x : c.ty) : rootOf1 (c.enc x) = [] := by cases c <;> rfl
theorem CTs.enc_root : ∀ (cs : CTs) (x : cs.ty),(cs.enc x).flatMap rootOf1 = []
 | .nil,_ => rfl
 | .cons c cs,x => by simp only [CTs.enc,List.flatMap_cons,CT.enc_root,CTs.enc_root cs x.2,List.append_nil]
theorem ET.enc_root (t : ET) (x : t.ty) : (t.enc x).cells.flatMap rootOf1 = [] := by
 cases t with
 | one c => simp [ET.enc,CT.enc_cells,CT.enc_root]
 | agg cs => exact CTs.enc_root cs x
theorem vnamesOf_a (st : VSt) (v : V) : namesOf st.a.r v.a = vnamesOf st.r v := by
 cases v <;> first | rfl | skip
 rename_i q i c
 simp only [V.a,namesOf,vnamesOf,VSt.a_r]
 cases hq : rget st.r q with
 | none => rfl
 | some R =>
   cases R with
   | var z x => simp only [Option.map_some,VR.a,VR.names,List.flatMap_cons,List.flatMap_nil,List.append_nil,V.cells_a,flatMap_a vrootOf1_a]
   | sl t xs =>
     simp only [Option.map_some,VR.a,VR.names,List.flatMap_map]
     have : ∀ l : List t.ty,l.flatMap (fun x => (t.enc x).cells.flatMap rootOf1) = [] := fun l => by
      induction l with
      | nil => rfl
      | cons x l ih => rw [List.flatMap_cons,ih,ET.enc_root]; rfl
     rw [this]
theorem vnames_a (st : VSt) (v : V) : names st.a.r v.a = vnames st.r v := by
 have h := vnamesOf_a st v
 cases v <;> first
  | (simp only [V.a,names,vnames,V.as_map]; exact flatMap_a (vnamesOf_a st) _)
  | exact h
theorem vget_laid : ∀ (vs : List V) (b : Nat) (l : List (Nat × V)) (i : Nat),vget (vlaid b vs ++ l) i = if b ≤ i ∧ i < b + vs.length then nthV vs (i - b) else vget l i
 | [],b,l,i => by simp only [vlaid,List.nil_append,List.length_nil]; rw [if_neg (by omega)]
 | v :: vs,b,l,i => by
   simp only [vlaid,List.cons_append,vget_cons,vget_laid vs (b + 1) l i,List.length_cons]
   by_cases h : i = b
   ·subst h; simp [nthV]
   ·rw [if_neg h]
    by_cases h2 : b + 1 ≤ i ∧ i < b + 1 + vs.length
    ·rw [if_pos h2,if_pos (by omega)]
     obtain ⟨k,hk⟩ : ∃ k,i - b = k + 1 := ⟨i - b - 1,by omega⟩
     rw [hk,show i - (b + 1) = k from by omega]; rfl
    ·rw [if_neg h2,if_neg (by omega)]
theorem vget_below (l : List (Nat × V)) (i : Nat) : vget (vbelow l) i = if i < gs then vget l i else .any := by
 induction l with
 | nil => simp [vbelow,vget]
 | cons p l ih =>
   simp only [vbelow]
   split
   ·rename_i hp
    simp only [vget,ih]
    by_cases h : i = p.1
    ·subst h; simp [hp]
    ·simp [h]
   ·rename_i hp
    rw [ih]
    by_cases h : i < gs
    ·have : i ≠ p.1 := by omega
     simp [h,vget,this]
    ·simp [h]
theorem nthV_none : ∀ (l : List V) (j : Nat),l.length ≤ j → nthV l j = .any
 | [],_,_ => rfl
 | v :: l,0,h => by simp at h
 | v :: l,j + 1,h => nthV_none l j (by simpa using h)
theorem VSt.lay_a (st : VSt) (vs : List V) : (st.lay vs).a = st.a.lay (vs.map V.a) := by
 refine St.ext' (fun i => ?_) fun i => rfl
 simp only [VSt.lay,VSt.a_t,vget_laid,vget_below,St.lay]
 by_cases h : gs ≤ i
 ·rw [if_pos h]
  by_cases h2 : i < gs + vs.length
  ·rw [if_pos ⟨h,h2⟩,nthV_a]
  ·rw [if_neg (by omega),if_neg (by omega),← nthV_a,nthV_none _ _ (by omega)]
 ·rw [if_neg h,if_neg (by omega),if_pos (by omega)]
theorem VSt.own1_a {st st1 : VSt} {m : Option MT} {j : Nat} (h : st.own1 m j = some st1) : st1.a = st.a.own1 j := by
 unfold VSt.own1 at h
 split at h
 ·rename_i k t xs e
  simp only [Option.some.injEq] at h; subst h
  have h2 : st.a.t (gs + j) = .tok k t.z (xs.map t.enc) := by rw [VSt.a_t,e]; rfl
  unfold St.own1
  rw [h2,VSt.put'_a,VSt.setRoot_a,VSt.kill_a,VSt.killTok_a]
  simp only [V.a,Option.map_some,VR.a,List.length_map]
 ·rename_i z e
  have h2 : st.a.t (gs + j) = .nils z := by rw [VSt.a_t,e]; rfl
  split at h
  ·split at h
   ·rename_i t hz
    subst hz
    simp only [Option.some.injEq] at h; subst h
    unfold St.own1
    rw [h2,VSt.put'_a,VSt.setRoot_a,VSt.kill_a]; rfl
   ·cases h
  ·cases h
 ·rename_i h1 h2
  simp only [Option.some.injEq] at h; subst h
  unfold St.own1
  rw [VSt.a_t]
  cases hv : vget st.t (gs + j) <;> first
   | rfl
   | exact absurd hv (h1 _ _ _)
   | exact absurd hv (h2 _)
theorem VSt.pinAll_a : ∀ {n j : Nat} {bs : List Bool} {ms : List MT} {st st1 : VSt},st.pinAll bs ms j n = some st1 → st.a.pinAll bs j n = some st1.a
 | 0,j,bs,ms,st,st1,h => by
   unfold VSt.pinAll at h
   simp only [Option.some.injEq] at h; subst h
   unfold St.pinAll; rfl
 | n + 1,j,bs,ms,st,st1,h => by
   rcases bs with _ | ⟨b,bs⟩
   ·simp only [VSt.pinAll] at h
    split at h
    ·rename_i st2 e
     simp only [St.pinAll,VSt.a_t,V.cells_a,List.length_map,VSt.pinN_a e,Option.bind_some]
     exact VSt.pinAll_a h
    ·cases h
   ·cases b
    ·simp only [VSt.pinAll] at h
     split at h
     ·rename_i st2 e
      simp only [St.pinAll,VSt.a_t,V.cells_a,List.length_map,VSt.pinN_a e,Option.bind_some]
      exact VSt.pinAll_a h
     ·cases h
    ·simp only [VSt.pinAll] at h
     split at h
     ·rename_i st2 e
      simp only [St.pinAll,← VSt.own1_a e]
      exact VSt.pinAll_a h
     ·cases h
section
variable {R : Type} {D : List (Nat × Callee)} {H : List (Nat × ET)}
theorem vloan1_ok (st : VSt) (v : V) : Ok1 (R := R) (fun k : Nat × V → Option R => vloan1 st v fun q x => k (q,x)) fun p => loanOf st.a v.a = some (p.1,p.2.a) := by
 have no : (∀ k : Nat → V → Option R,vloan1 st v k = none) → Ok1 (R := R) (fun k : Nat × V → Option R => vloan1 st v fun q x => k (q,x)) fun p => loanOf st.a v.a = some (p.1,p.2.a) := fun h k r hk => by
  dsimp only at hk; rw [h] at hk; cases hk
 cases v with
 | view q o n =>
   cases o with
   | succ o => exact no fun _ => rfl
   | zero =>
     have e : (fun k : Nat × V → Option R => vloan1 st (.view q 0 n) fun q x => k (q,x)) = fun k => match rget st.r q with
      | some (.sl t xs) => if decide (n = xs.length) then k (q,.ios t xs) else none
      | _ => none := rfl
     rw [e]
     cases hq : rget st.r q with
     | none => exact Ok1.no
     | some R0 =>
       cases R0 with
       | var z x => exact Ok1.no
       | sl t xs =>
         refine Ok1.ifc fun hn => Ok1.mk (x := (q,V.ios t xs)) ?_
         simp only [decide_eq_true_eq] at hn
         simp only [V.a,loanOf,VSt.a_r,hq,Option.map_some,VR.a,Option.bind_some,List.length_map,hn,and_self,if_true]
 | loc q i c =>
   cases i with
   | succ o => exact no fun _ => rfl
   | zero =>
     cases c with
     | succ o => exact no fun _ => rfl
     | zero =>
       have e : (fun k : Nat × V → Option R => vloan1 st (.loc q 0 0) fun q x => k (q,x)) = fun k => match rget st.r q with
        | some (.var z x) => vopt (vlends st.r x.cells) fun cs => k (q,.iob z (vreCell x cs))
        | _ => none := rfl
       rw [e]
       cases hq : rget st.r q with
       | none => exact Ok1.no
       | some R0 =>
         cases R0 with
         | sl t xs => exact Ok1.no
         | var z x =>
           refine Ok1.vopt fun cs hcs => Ok1.mk (x := (q,V.iob z (vreCell x cs))) ?_
           simp only [V.a,loanOf,VSt.a_r,hq,Option.map_some,VR.a,Option.bind_some,V.cells_a,vlends_a hcs,vreCell_a]
 | _ => exact no fun _ => rfl
theorem vloans_ok (st : VSt) : ∀ (l : List V) (bs : List Bool),Ok1 (R := R) (fun k : List (Option V) × List Nat × List Nat → Option R => vloans st bs l fun a b c => k (a,b,c)) fun p => loans st.a bs (l.map V.a) = some (p.1.map (Option.map V.a),p.2.1,p.2.2)
 | [],bs => by
   have e : (fun k : List (Option V) × List Nat × List Nat → Option R => vloans st bs [] fun a b c => k (a,b,c)) = fun k => k ([],[],[]) := by
    funext k; unfold vloans; rfl
   rw [e]
   refine Ok1.mk ?_
   unfold loans; rfl
 | v :: l,bs => by
   have gen : ∀ bs : List Bool,(∀ x,bs ≠ true :: x) → Ok1 (R := R) (fun k : List (Option V) × List Nat × List Nat → Option R => vloans st bs (v :: l) fun a b c => k (a,b,c)) fun p => loans st.a bs ((v :: l).map V.a) = some (p.1.map (Option.map V.a),p.2.1,p.2.2) := by
    intro bs hb
    have e : (fun k : List (Option V) × List Nat × List Nat → Option R => vloans st bs (v :: l) fun a b c => k (a,b,c)) = fun k => vloans st bs.tail l fun xs qs ns => k (none :: xs,qs,ns) := by
     funext k
     rcases bs with _ | ⟨b,bs⟩
     ·rfl
     ·cases b
      ·rfl
      ·exact absurd rfl (hb _)
    rw [e]
    refine Ok1.seq (F := fun k : List (Option V) × List Nat × List Nat → Option R => vloans st bs.tail l fun a b c => k (a,b,c)) (G := fun p (k : List (Option V) × List Nat × List Nat → Option R) => k (none :: p.1,p.2.1,p.2.2)) (vloans_ok st l bs.tail) fun p hp => Ok1.mk ?_
    have e2 : loans st.a bs ((v :: l).map V.a) = (loans st.a bs.tail (l.map V.a)).map fun (xs,qs,ns) => (none :: xs,qs,ns) := by
     rcases bs with _ | ⟨b,bs⟩
     ·rfl
     ·cases b
      ·rfl
      ·exact absurd rfl (hb _)
    rw [e2,hp]; rfl
   rcases bs with _ | ⟨b,bs⟩
   ·exact gen _ (by intro x h; cases h)
   ·cases b
    ·exact gen _ (by intro x h; cases h)
    ·have e : (fun k : List (Option V) × List Nat × List Nat → Option R => vloans st (true :: bs) (v :: l) fun a b c => k (a,b,c)) = fun k => vloan1 st v fun q x => vloans st bs l fun xs qs ns => k (some x :: xs,q :: qs,vnames st.r v ++ ns) := rfl
     rw [e]
     refine Ok1.seq (F := fun k : Nat × V → Option R => vloan1 st v fun q x => k (q,x)) (G := fun p (k : List (Option V) × List Nat × List Nat → Option R) => vloans st bs l fun xs qs ns => k (some p.2 :: xs,p.1 :: qs,vnames st.r v ++ ns)) (vloan1_ok st v) fun p hp => ?_
     refine Ok1.seq (F := fun k : List (Option V) × List Nat × List Nat → Option R => vloans st bs l fun a b c => k (a,b,c)) (G := fun r (k : List (Option V) × List Nat × List Nat → Option R) => k (some p.2 :: r.1,p.1 :: r.2.1,vnames st.r v ++ r.2.2)) (vloans_ok st l bs) fun r hr => Ok1.mk ?_
     simp only [List.map_cons,loans,hp,Option.bind_some,hr,Option.map_some,vnames_a]
theorem vargs1_ok (st : VSt) : ∀ (l : List V) (xs : List (Option V)),Ok1 (R := R) (vargs1 st.r xs l) fun as => args1 st.a (xs.map (Option.map V.a)) (l.map V.a) = some (as.map V.a)
 | [],[] => Ok1.mk (x := []) rfl
 | [],none :: _ => Ok1.no
 | [],some _ :: _ => Ok1.no
 | _ :: _,[] => Ok1.no
 | v :: l,some x :: xs => by
   have e : vargs1 (R := R) st.r (some x :: xs) (v :: l) = fun k => vargs1 st.r xs l fun r => k (x :: r) := rfl
   rw [e]
   refine Ok1.seq (F := vargs1 st.r xs l) (G := fun r (k : List V → Option R) => k (x :: r)) (vargs1_ok st l xs) fun r hr => Ok1.mk ?_
   simp only [List.map_cons,Option.map_some,args1,hr]
 | v :: l,none :: xs => by
   have e : vargs1 (R := R) st.r (none :: xs) (v :: l) = fun k => if vowned v then none else vtoData st.r v fun x => vargs1 st.r xs l fun r => k (x :: r) := rfl
   rw [e]
   refine Ok1.ite (fun _ => Ok1.no) fun ho => ?_
   refine Ok1.seq (F := vtoData st.r v) (G := fun x (k : List V → Option R) => vargs1 st.r xs l fun r => k (x :: r)) (vtoData_ok st v) fun x hx => ?_
   refine Ok1.seq (F := vargs1 st.r xs l) (G := fun r (k : List V → Option R) => k (x :: r)) (vargs1_ok st l xs) fun r hr => Ok1.mk ?_
   simp only [List.map_cons,Option.map_none,args1,vowned_a,if_neg ho,hx,Option.bind_some,hr,Option.map_some]
theorem vblanks_a : ∀ {qs : List Nat} {l : List V} {st st1 : VSt},vblanks st qs l = some st1 → blanks st.a qs (l.map V.a) = some st1.a
 | [],[],st,st1,h => by simp only [vblanks,Option.some.injEq] at h; subst h; rfl
 | [],_ :: _,st,st1,h => by simp [vblanks] at h
 | q :: qs,[],st,st1,h => by simp [vblanks] at h
 | q :: qs,v :: l,st,st1,h => by
   cases v <;> first
    | (simp [vblanks] at h; done)
    | skip
   ·simp only [vblanks] at h
    have := vblanks_a h
    simp only [List.map_cons,V.a,blanks]
    rw [VSt.setRoot_a] at this
    exact this
   ·rename_i z x
    simp only [vblanks] at h
    split at h
    ·rename_i z0 x0 e
     have := vblanks_a h
     simp only [List.map_cons,V.a,blanks,VSt.a_r,e,Option.map_some,VR.a,Option.bind_some]
     rw [← this]
     congr 1
     refine St.ext' (fun i => rfl) fun i => ?_
     simp only [VSt.a_r,rget_cons,rget_less,V.cells_a,flatMap_a vrootOf1_a]
     split
     ·simp only [Option.map_some,VR.a,vreCell_a,List.map_map]; rfl
     ·split <;> rfl
    ·cases h
   ·rename_i t xs
    simp only [vblanks] at h
    have := vblanks_a h
    simp only [List.map_cons,V.a,blanks]
    rw [VSt.setRoot_a] at this
    exact this
theorem vtakeOuts_a : ∀ {qs : List Nat} {l : List V} {st st1 : VSt},vtakeOuts st qs l = some st1 → takeOuts st.a qs (l.map V.a) = some st1.a
 | [],[],st,st1,h => by simp only [vtakeOuts,Option.some.injEq] at h; subst h; rfl
 | [],_ :: _,st,st1,h => by simp [vtakeOuts] at h
 | q :: qs,[],st,st1,h => by simp [vtakeOuts] at h
 | q :: qs,v :: l,st,st1,h => by
   cases v <;> first
    | (simp [vtakeOuts] at h; done)
    | skip
   ·simp only [vtakeOuts] at h
    have := vtakeOuts_a h
    simp only [List.map_cons,V.a,takeOuts,this]
   ·rename_i z x
    simp only [vtakeOuts] at h
    split at h
    ·rename_i hl
     split at h
     ·rename_i cs st2 e
      have := vtakeOuts_a h
      rw [VSt.setRoot_a] at this
      simp only [Option.map_some,VR.a,vreCell_a] at this
      simp only [List.map_cons,V.a,takeOuts,V.cells_a,List.length_map,if_pos hl,vtakes_a e,Option.bind_some,this]
     ·cases h
    ·cases h
   ·rename_i t xs
    simp only [vtakeOuts] at h
    have := vtakeOuts_a h
    simp only [List.map_cons,V.a,takeOuts,this]
theorem vfillQ_a {z : Nat} {t : ET} (hz : t.z = z) : ∀ {parts : List (Nat × Opd)} {xs ys : List t.ty} {st st1 : VSt},vfillQ st t xs parts = some (ys,st1) → stepW.fillQ st.a z (xs.map t.enc) parts = some (ys.map t.enc,st1.a)
 | [],xs,ys,st,st1,h => by
   simp only [vfillQ,Option.some.injEq,Prod.mk.injEq] at h
   obtain ⟨rfl,rfl⟩ := h; rfl
 | (i,x) :: l,xs,ys,st,st1,h => by
   simp only [vfillQ] at h
   split at h
   ·rename_i hx
    split at h
    ·rename_i v st2 ev
     split at h
     ·rename_i y ey
      split at h
      ·rename_i hi
       have := vfillQ_a hz h
       rw [List.map_set] at this
       simp only [stepW.fillQ,← Opd.vv_a st hx,VSt.pin_a ev,Option.bind_some,V.toET_a ey,ET.enc_z,List.length_map,hz,hi,and_self,if_true,this]
      ·cases h
     ·cases h
    ·cases h
   ·cases h
end
end Go.Ab
namespace Go.Ab
section
variable {R : Type} {D : List (Nat × Callee)} {H : List (Nat × ET)}
theorem vstepW_ok (d : Option Nat) (st : VSt) (o : O) : Ok1 (R := R) (vstepW D H d st o) fun st' => stepW (cfD D) (ioD D) d st.a o = some st'.a := by
 cases o with
 | asg x =>
   unfold vstepW; dsimp only
   refine Ok1.ifc fun hx => ?_
   have gen : ∀ v,x.vv st = v → (∀ n t xs,v ≠ .tok n t xs) → (∀ z,v ≠ .nils z) → Ok1 (R := R) (fun k => k (st.put d v)) fun st' => stepW (cfD D) (ioD D) d st.a (.asg x) = some st'.a := by
    intro v hv h1 h2
    refine Ok1.mk ?_
    simp only [stepW,← Opd.vv_a st hx,hv]
    split
    ·rename_i e; cases v <;> simp [V.a] at e; exact absurd rfl (h1 _ _ _)
    ·rename_i e; cases v <;> simp [V.a] at e; exact absurd rfl (h2 _)
    ·rw [VSt.put_a]
   cases d with
   | none =>
     dsimp only
     refine Ok1.mk ?_
     simp only [stepW,← Opd.vv_a st hx,VSt.put_a]
   | some d =>
     cases hv : x.vv st <;> (try dsimp only) <;> first
      | exact gen _ hv (by intros; simp) (by intros; simp)
      | skip
     ·rename_i z
      refine Ok1.vopt fun t ht => Ok1.ifc fun hc => Ok1.mk ?_
      simp only [Bool.and_eq_true,decide_eq_true_eq] at hc
      obtain ⟨rfl,hd⟩ := hc
      simp only [stepW,← Opd.vv_a st hx,hv,V.a,if_pos hd,VSt.put_a,VSt.setRoot_a,VSt.kill_a,Option.map_some,VR.a,List.map_nil,List.length_nil]
     ·rename_i n t xs
      refine Ok1.ifc fun hd => Ok1.mk ?_
      simp only [stepW,← Opd.vv_a st hx,hv,V.a,if_pos hd,VSt.put_a,VSt.setRoot_a,VSt.kill_a,VSt.killTok_a,Option.map_some,VR.a,List.length_map]
 | alloc z zero =>
   unfold vstepW; dsimp only
   cases d with
   | none => exact Ok1.no
   | some d =>
     dsimp only
     refine Ok1.ifc fun hc => Ok1.mk ?_
     simp only [Bool.and_eq_true,decide_eq_true_eq] at hc
     obtain ⟨⟨⟨h1,h2⟩,h3⟩,h4⟩ := hc
     have e := A.toV_a h1
     have hl : zero.cells.length = z := by rw [← e,V.cells_a,List.length_map]; exact h2
     have hp : zero.cells.all pureC = true := by rw [← e,V.cells_a,all_a vpureC_a]; exact h4
     simp only [stepW,hl,h3,hp,and_self,if_true,VSt.put_a,VSt.setRoot_a,VSt.kill_a,Option.map_some,VR.a,V.a,e]
 | box z x =>
   unfold vstepW; dsimp only
   refine Ok1.ifc fun hx => ?_
   cases d with
   | none => exact Ok1.no
   | some d =>
     dsimp only
     refine Ok1.ifc fun hc => ?_
     simp only [Bool.and_eq_true,decide_eq_true_eq] at hc
     obtain ⟨⟨⟨h1,h2⟩,h3⟩,h4⟩ := hc
     cases hab : (((st.put' gs (x.vv st)).kill d).setRoot d none).absorbs d 0 0 z with
     | none => exact Ok1.no
     | some p =>
       obtain ⟨cs,st1⟩ := p
       refine Ok1.mk ?_
       have := VSt.absorbs_a hab
       simp only [VSt.setRoot_a,VSt.kill_a,VSt.put'_a,Option.map_none] at this
       simp only [stepW,← Opd.vv_a st hx,V.cells_a,List.length_map,all_a (vsolid_a st),h1,h2,h3,h4,and_self,if_true,this,Option.map_some,VSt.put_a,VSt.setRoot_a,VSt.kill_a,VSt.put'_a,VR.a,V.a,vreCell_a]
 | sto n a x =>
   unfold vstepW; dsimp only
   refine Ok1.ifc fun hx => Ok1.ifc fun hn => ?_
   simp only [Bool.and_eq_true] at hx
   cases hv : a.vv st <;> (try dsimp only) <;> first
    | exact Ok1.no
    | skip
   rename_i q i c
   cases hq : rget st.r q with
   | none => exact Ok1.no
   | some R0 =>
     cases R0 with
     | var z e =>
       cases i with
       | succ i => exact Ok1.no
       | zero =>
         dsimp only
         refine Ok1.ifc fun hc => ?_
         simp only [Bool.and_eq_true,decide_eq_true_eq] at hc
         obtain ⟨⟨⟨h1,h2⟩,h3⟩,h4⟩ := hc
         cases hab : ((st.put' gs (x.vv st)).setRoot q (some (.var z (vblank e c n)))).absorbs q c 0 n with
         | none => exact Ok1.no
         | some p =>
           obtain ⟨vs,st1⟩ := p
           refine Ok1.mk ?_
           have := VSt.absorbs_a hab
           simp only [VSt.setRoot_a,VSt.put'_a,Option.map_some,VR.a,vblank_a] at this
           simp only [stepW,← Opd.vv_a st hx.1,← Opd.vv_a st hx.2,hv,V.a,VSt.a_r,hq,Option.map_some,VR.a,Option.bind_some]
           rw [V.cells_a,List.length_map,if_pos hn,V.cells_a,List.length_map,all_a (vsolid_a st),if_pos ⟨h1,h2,h3,h4⟩,this]
           simp only [Option.map_some,VSt.put_a,VSt.setRoot_a,VSt.put'_a,VR.a,vreCell_a,List.map_append,List.map_take,List.map_drop,V.a]
     | sl t0 xs0 =>
       cases hp : st.pin (x.vv st) with
       | none => exact Ok1.no
       | some p =>
         obtain ⟨v,st1⟩ := p
         dsimp only
         refine Ok1.ifc fun hvn => ?_
         cases hq1 : rget st1.r q with
         | none => exact Ok1.no
         | some R1 =>
           cases R1 with
           | var z e => exact Ok1.no
           | sl t xs =>
             refine Ok1.bind fun e he => Ok1.vopt fun cs hcs => Ok1.vopt fun y hy => Ok1.mk ?_
             have h1 := vsetCells_a hcs
             have h2 := V.toET_a hy
             simp only [stepW,← Opd.vv_a st hx.1,← Opd.vv_a st hx.2,hv,V.a,VSt.a_r,hq,Option.map_some,VR.a,Option.bind_some]
             rw [V.cells_a,List.length_map,if_pos hn,VSt.pin_a hp]
             simp only [Option.bind_some,V.cells_a,List.length_map,if_pos hvn,VSt.a_r,hq1,Option.map_some,VR.a,List.getElem?_map,he]
             rw [ET.vs_a,h1]
             simp only [Option.map_some,VSt.put_a,VSt.setRoot_a,VR.a,V.a,List.map_set,← h2,vreCell_a,ET.v_a]
 | app z bytes s x =>
   unfold vstepW; dsimp only
   refine Ok1.ifc fun hx => ?_
   simp only [Bool.and_eq_true] at hx
   cases d with
   | none => exact Ok1.no
   | some d =>
     dsimp only
     refine Ok1.vopt fun t ht => Ok1.vopt fun ys hys => Ok1.ifc fun hz => ?_
     simp only [Bool.and_eq_true,decide_eq_true_eq] at hz
     obtain ⟨rfl,hb⟩ := hz
     have hy := velems_a hys
     have hf : (ys.map t.enc).all flatC = true := by
      rw [List.all_map,List.all_eq_true]
      exact fun y _ => ET.enc_flat t y
     cases hv : s.vv st <;> (try dsimp only) <;> first
      | exact Ok1.no
      | skip
     ·refine Ok1.ifc fun h1 => Ok1.ifc fun h2 => Ok1.mk ?_
      simp only [decide_eq_true_eq] at h2
      simp only [stepW,← Opd.vv_a st hx.1,← Opd.vv_a st hx.2,hy,Option.bind_some,hv,V.a,h1,h2,hb,hf,List.length_map,and_self,if_true,VSt.put_a]
     ·rename_i n u xs
      refine Ok1.vopt fun xs' hxs => Ok1.ifc fun h2 => Ok1.mk ?_
      obtain ⟨rfl,hxs⟩ := castL_eq hxs
      cases hxs
      simp only [decide_eq_true_eq] at h2
      simp only [stepW,← Opd.vv_a st hx.1,← Opd.vv_a st hx.2,hy,Option.bind_some,hv,V.a,h2,hb,hf,List.length_map,and_self,if_true,VSt.put_a,VSt.killTok_a,List.map_append]
     ·rename_i q o n
      cases hq : rget st.r q with
      | none => exact Ok1.no
      | some R0 =>
        cases R0 with
        | var z e => exact Ok1.no
        | sl u xs =>
          dsimp only
          refine Ok1.vopt fun xs' hxs => Ok1.ifc fun h2 => Ok1.mk ?_
          obtain ⟨rfl,hxs⟩ := castL_eq hxs
          cases hxs
          simp only [decide_eq_true_eq] at h2
          simp only [stepW,← Opd.vv_a st hx.1,← Opd.vv_a st hx.2,hy,Option.bind_some,hv,V.a,VSt.a_r,hq,Option.map_some,VR.a,h2,hb,hf,List.length_map,and_self,if_true,VSt.put_a,VSt.setRoot_a,VSt.kill_a,List.map_append,part_a,Option.map_none]
 | call f args =>
   unfold vstepW; dsimp only
   refine Ok1.ifc fun hx => ?_
   simp only [Bool.and_eq_true] at hx
   cases hv : f.vv st <;> (try dsimp only) <;> first
    | exact Ok1.no
    | skip
   rename_i g caps
   refine Ok1.vopt fun st1 hst1 => ?_
   refine Ok1.seq (F := fun k : List (Option V) × List Nat × List Nat → Option R => vloans st1 (vios D g) ((List.range (args.length + caps.length)).map fun j => vget st1.t (gs + j)) fun a b c => k (a,b,c))
    (G := fun p (k : VSt → Option R) => if decide p.2.2.Nodup then
           vargs1 (vless st1.r p.2.2) p.1 ((List.range (args.length + caps.length)).map fun j => vget st1.t (gs + j)) fun as => vcf D g as fun res outs =>
            vopt (vblanks (st1.lay []) p.2.1 outs) fun st2 => vopt (vtakeOuts st2 p.2.1 outs) fun st3 => vopt (vlandR st3 d res) k
        else none) (vloans_ok st1 _ _) fun p hp => ?_
   refine Ok1.ifc fun hnd => ?_
   refine Ok1.seq (F := vargs1 (VSt.mk st1.t (vless st1.r p.2.2)).r p.1 ((List.range (args.length + caps.length)).map fun j => vget st1.t (gs + j)))
    (G := fun as (k : VSt → Option R) => vcf D g as fun res outs =>
           vopt (vblanks (st1.lay []) p.2.1 outs) fun st2 => vopt (vtakeOuts st2 p.2.1 outs) fun st3 => vopt (vlandR st3 d res) k) (vargs1_ok _ _ _) fun as has => ?_
   refine Ok1.seq (F := fun k : List V × List V → Option R => vcf D g as fun a b => k (a,b))
    (G := fun r (k : VSt → Option R) => vopt (vblanks (st1.lay []) p.2.1 r.2) fun st2 => vopt (vtakeOuts st2 p.2.1 r.2) fun st3 => vopt (vlandR st3 d r.1) k) (vcf_ok D g as) fun r hr => ?_
   refine Ok1.vopt fun st2 h2 => Ok1.vopt fun st3 h3 => Ok1.vopt' fun st4 h4 => ?_
   have e := Opd.vvs_a st hx.2
   have e1 := VSt.pinAll_a hst1
   rw [VSt.lay_a,List.map_append,← e] at e1
   simp only [stepW,← Opd.vv_a st hx.1,hv,V.a,V.as_map,List.length_map]
   rw [show ioD D g = vios D g from rfl,e1]
   simp only [Option.bind_some]
   have e2 : (List.range (args.length + caps.length)).map (fun j => st1.a.t (gs + j)) = ((List.range (args.length + caps.length)).map fun j => vget st1.t (gs + j)).map V.a := by
    rw [List.map_map]; rfl
   rw [e2,hp]
   simp only [Option.bind_some]
   rw [if_pos hnd]
   have e3 := has
   rw [VSt.less_a] at e3
   rw [show ({ st1.a with r := less st1.a.r p.2.2 } : St) = { t := fun i => (vget st1.t i).a,r := less st1.a.r p.2.2 } from rfl,e3]
   simp only [Option.bind_some]
   rw [hr]
   simp only [Option.bind_some,giveBack]
   have e4 := vblanks_a h2
   rw [VSt.lay_a] at e4
   simp only [List.map_nil] at e4
   rw [e4]
   simp only [Option.bind_some]
   rw [vtakeOuts_a h3]
   simp only [Option.bind_some]
   exact vlandR_a h4
 | ia z x i =>
   unfold vstepW; dsimp only
   refine Ok1.ifc fun hx => ?_
   simp only [Bool.and_eq_true] at hx
   cases hi : i.vv st <;> (try dsimp only) <;> first
    | exact Ok1.no
    | skip
   rename_i ki n
   cases hv : x.vv st <;> (try dsimp only) <;> first
    | exact Ok1.no
    | skip
   rename_i k' t' xs'
   cases hp : st.pin (V.tok k' t' xs') with
   | none => exact Ok1.no
   | some p =>
     obtain ⟨v,st1⟩ := p
     cases v <;> (try dsimp only) <;> first
      | exact Ok1.no
      | skip
     rename_i t xs
     refine Ok1.ifc fun hz => Ok1.ifc fun hn => Ok1.bind fun y hy => Ok1.mk ?_
     simp only [decide_eq_true_eq] at hz hn
     subst hz
     have := VSt.pin_a hp
     simp only [V.a] at this
     simp only [stepW,← Opd.vv_a st hx.1,← Opd.vv_a st hx.2,hi,hv,V.a,this,Option.bind_some,hn,and_self,if_true,List.getElem?_map,hy,Option.map_some,VSt.put_a,V.as_map,ET.vs_a]
 | bsl z zero n parts =>
   unfold vstepW; dsimp only
   cases d with
   | none => exact Ok1.no
   | some d =>
     dsimp only
     refine Ok1.vopt fun t ht => Ok1.ifc fun hc => Ok1.vopt fun z0 hz0 => Ok1.vopt fun p hp => Ok1.mk ?_
     simp only [Bool.and_eq_true,decide_eq_true_eq] at hc
     obtain ⟨⟨h1,h2⟩,h3⟩ := hc
     have e0 : zero = t.enc z0 := (A.toV_a h1).symm.trans (V.toET_a hz0)
     have := vfillQ_a h2 (show vfillQ st t (List.replicate n z0) parts = some (p.1,p.2) from hp)
     rw [List.map_replicate,← e0] at this
     simp only [stepW,h3,true_and,this,Option.map_some,VSt.put_a,V.a]
     rw [if_pos (by rw [e0,← h2]; exact ET.enc_z _ _),h2]
 | _ => unfold vstepW; exact Ok1.no
theorem vstep_ok (st : VSt) (o : Op) : Ok1 (R := R) (vstep D H st o) fun st' => step (cfD D) (ioD D) st.a o = some st'.a := by
 unfold vstep
 refine Ok1.ite (fun h => ?_) fun h => ?_
 ·refine Ok1.ifc fun hs => (vstepW_ok o.d st o.o).weak fun st' hs' => ?_
  rw [step,if_pos h,if_pos hs,hs']
 ·refine Ok1.seq (F := vevalV D H o.d st o.o) (G := fun v (k : VSt → Option R) => if readOk st.a o v.a then k (st.put o.d v) else none) (vevalV_ok o.d st o.o) fun v hv => Ok1.ifc fun hp => Ok1.mk ?_
  rw [step,if_neg h,hv,Option.bind_some,if_pos hp,VSt.put_a]
theorem slotOf_eq : ∀ (l : List Op) (j : Nat),slotOf l j = (l[j]?).bind (·.d)
 | [],_ => rfl
 | o :: _,0 => rfl
 | _ :: l,j + 1 => by simpa [slotOf] using slotOf_eq l j
theorem put'_same {st : VSt} {d : Nat} {v : V} (h : (vget st.t d).a = v.a) : (st.put' d v).a = st.a := by
 rw [VSt.put'_a]
 refine St.ext' (fun i => ?_) fun i => rfl
 simp only [St.put']
 split
 ·rename_i e; subst e; rw [VSt.a_t,h]
 ·rfl
theorem vrunOps_ok (all : List Op) : ∀ (l : List Op) (st : VSt),Ok1 (R := R) (vrunOps D H all l st) fun st' => runOps (cfD D) (ioD D) all l st.a = some st'.a
 | [],st => Ok1.mk (x := st) rfl
 | o :: l,st => by
   have stp : ∀ s : VSt,guardOf all s.a o.g = some true → Ok1 (R := R) (fun k => vstep D H s o fun st' => vrunOps D H all l st' k) fun st' => runOps (cfD D) (ioD D) all (o :: l) s.a = some st'.a := by
    intro s hg
    refine Ok1.seq (F := vstep D H s o) (G := fun st' (k : VSt → Option R) => vrunOps D H all l st' k) (vstep_ok s o) fun st' hs => ?_
    refine (vrunOps_ok all l st').weak fun s2 h2 => ?_
    simp only [runOps,hg,hs,Option.bind_some,h2]
   have skp : ∀ s : VSt,guardOf all s.a o.g = some false → Ok1 (R := R) (fun k => vrunOps D H all l (s.put o.d .undef) k) fun st' => runOps (cfD D) (ioD D) all (o :: l) s.a = some st'.a := by
    intro s hg
    refine (vrunOps_ok all l (s.put o.d .undef)).weak fun s2 h2 => ?_
    rw [VSt.put_a] at h2
    simp only [runOps,hg]; exact h2
   have e : vrunOps (R := R) D H all (o :: l) st = fun k => match o.g with
    | none => vstep D H st o fun st' => vrunOps D H all l st' k
    | some (j,want) =>
      match slotOf all j with
      | some d =>
        (match vget st.t d with
         | .bool b =>
           if b then
            (if want then vstep D H (st.put' d (.bool true)) o fun st' => vrunOps D H all l st' k else vrunOps D H all l ((st.put' d (.bool true)).put o.d .undef) k)
           else
            (if want then vrunOps D H all l ((st.put' d (.bool false)).put o.d .undef) k else vstep D H (st.put' d (.bool false)) o fun st' => vrunOps D H all l st' k)
         | .undef => vrunOps D H all l (st.put o.d .undef) k
         | _ => none)
      | none => none := rfl
   rw [e]
   cases hg : o.g with
   | none => exact stp st (by rw [hg]; rfl)
   | some p =>
     obtain ⟨j,want⟩ := p
     dsimp only
     cases hs : slotOf all j with
     | none => exact Ok1.no
     | some d =>
       dsimp only
       have hsl : (all[j]?).bind (·.d) = some d := by rw [← slotOf_eq,hs]
       cases hv : vget st.t d <;> (try dsimp only) <;> first
        | exact Ok1.no
        | skip
       ·exact skp st (by rw [hg]; simp only [guardOf,hsl,VSt.a_t,hv,V.a])
       ·rename_i b
        have hgd : ∀ c : Bool,b = c → guardOf all (st.put' d (.bool c)).a o.g = some (c == want) := fun c hc => by
         rw [put'_same (by rw [hv,hc]),hg]
         simp only [guardOf,hsl,VSt.a_t,hv,V.a,hc]
        have same : ∀ c : Bool,b = c → (st.put' d (.bool c)).a = st.a := fun c hc => put'_same (by rw [hv,hc])
        refine Ok1.ite (fun hb => ?_) fun hb => ?_
        ·rw [← same true hb]
         refine Ok1.ite (fun hw => ?_) fun hw => ?_
         ·exact stp _ (by rw [hgd true hb,hw]; rfl)
         ·exact skp _ (by rw [hgd true hb]; simp at hw; rw [hw]; rfl)
        ·simp only [Bool.not_eq_true] at hb
         rw [← same false hb]
         refine Ok1.ite (fun hw => ?_) fun hw => ?_
         ·exact skp _ (by rw [hgd false hb,hw]; rfl)
         ·exact stp _ (by rw [hgd false hb]; simp at hw; rw [hw]; rfl)
theorem vfz1_a (v : V) : (vfz1 v).a = fz1 v.a := by cases v <;> rfl
theorem vget_keep (f : Nat → V) (l : List Nat) (i : Nat) : vget (l.map fun j => (j,f j)) i = if i ∈ l then f i else .any := by
 induction l with
 | nil => simp [vget]
 | cons j l ih =>
   simp only [List.map_cons,vget,ih]
   by_cases h : i = j
   ·subst h; simp
   ·simp [h]
theorem rget_keep (f : Nat → Option VR) (l : List Nat) (i : Nat) : rget (l.map fun j => (j,f j)) i = if i ∈ l then f i else none := by
 induction l with
 | nil => simp [rget]
 | cons j l ih =>
   simp only [List.map_cons,rget,ih]
   by_cases h : i = j
   ·subst h; simp
   ·simp [h]
theorem tab_keep (f : Nat → A) : ∀ (l : List Nat) (i : Nat),tab (l.map fun j => (j,f j)) i = if i ∈ l then f i else .any
 | [],i => rfl
 | j :: l,i => by
   have ih := tab_keep f l i
   simp only [tab,List.map_cons,List.lookup_cons] at ih ⊢
   by_cases h : i = j
   ·subst h; simp
   ·have : (i == j) = false := by simpa using h
    simp only [this]
    rw [ih]
    simp [h]
theorem rtab_keep (r : Nat → Option Root) : ∀ (l : List Nat) (i : Nat),rtab (l.filterMap fun j => (r j).map fun R => (j,R)) i = if i ∈ l then r i else none
 | [],i => rfl
 | j :: l,i => by
   have ih := rtab_keep r l i
   simp only [List.filterMap_cons]
   cases hj : r j with
   | none =>
     simp only [Option.map_none]
     rw [ih]
     by_cases h : i = j
     ·subst h; simp [hj]
     ·simp [h]
   | some R' =>
     simp only [Option.map_some,rtab,List.lookup_cons] at ih ⊢
     by_cases h : i = j
     ·subst h; simp [hj]
     ·have : (i == j) = false := by simpa using h
      simp only [this]
      rw [ih]
      simp [h]
theorem VSt.open1_is {R : Type} (H : List (Nat × ET)) (st : VSt) (n : Nat) : (∀ k : VSt → Option R,st.open1 H n k = none) ∨ ∃ st',(∀ k : VSt → Option R,st.open1 H n k = k st') ∧ st'.a = st.a.open1 n := by
 unfold VSt.open1
 split
 rotate_left
 ·exact .inl fun _ => rfl
 rename_i z cs hR
 have hRa : st.a.r (n / 1000 - 1) = some ⟨true,z,[.agg (cs.map V.a)]⟩ := by rw [VSt.a_r,hR]; simp only [Option.map_some,VR.a,V.a,V.as_map]
 split
 ·rename_i z1 hc
  have hca : (cs.map V.a)[n % 1000]? = some (.nils z1) := by rw [List.getElem?_map,hc]; rfl
  by_cases hcond : (decide (1000 ≤ n) && (rget st.r n).isNone) = true
  ·simp only [hcond,if_true]
   cases hh : hget H n with
   | none => exact .inl fun _ => rfl
   | some t =>
     simp only [vopt]
     by_cases hz : t.z = z1
     ·simp only [hz,if_true]
      refine .inr ⟨_,fun _ => rfl,?_⟩
      simp only [Bool.and_eq_true,decide_eq_true_eq] at hcond
      have hnn : (st.a.r n).isNone = true := by
       rw [VSt.a_r]
       cases e : rget st.r n with
       | none => rfl
       | some R => rw [e] at hcond; simp at hcond
      unfold St.open1
      rw [hRa]
      simp only [hca]
      rw [if_pos ⟨hcond.1,hnn⟩,VSt.setRoot_a,VSt.setRoot_a,VSt.kill_a]
      simp only [Option.map_some,VR.a,V.a,V.as_map,List.map_set,List.map_nil,hz,List.length_nil]
     ·simp only [hz,if_false]; exact .inl fun _ => trivial
  ·simp only [hcond,if_false,Bool.false_eq_true]; exact .inl fun _ => trivial
 ·rename_i r off l hc
  have hca : (cs.map V.a)[n % 1000]? = some (.view r off l) := by rw [List.getElem?_map,hc]; rfl
  refine .inr ⟨st,fun _ => rfl,?_⟩
  unfold St.open1
  rw [hRa]
  simp only [hca]
 ·exact .inl fun _ => rfl
theorem VSt.restrict_a (st : VSt) (keep keepR : List Nat) : (st.restrict keep keepR).a = st.a.restrict keep keepR := by
 refine St.ext' (fun i => ?_) fun i => ?_
 ·have h := tab_keep (fun i => fz (st.a.t i)) keep i
  refine Eq.trans ?_ (show (if i ∈ keep then fz (st.a.t i) else .any) = (st.a.restrict keep keepR).t i from h.symm)
  rw [VSt.a_t,show vget (st.restrict keep keepR).t i = if i ∈ keep then vfz (vget st.t i) else .any from vget_keep (fun i => vfz (vget st.t i)) keep i]
  split
  ·exact vcomps_a vfz1_a _
  ·rfl
 ·have h := rtab_keep st.a.r keepR i
  refine Eq.trans ?_ (show (if i ∈ keepR then st.a.r i else none) = (st.a.restrict keep keepR).r i from h.symm)
  rw [VSt.a_r,show rget (st.restrict keep keepR).r i = if i ∈ keepR then rget st.r i else none from rget_keep (fun i => rget st.r i) keepR i]
  split <;> rfl
end
end Go.Ab
namespace Go.Ab
section
variable {R : Type} {D : List (Nat × Callee)} {H : List (Nat × ET)} {leave : VSt → Option R}
inductive To (D : List (Nat × Callee)) (H : List (Nat × ET)) (leave : VSt → Option R) (s : List Fr) (st : VSt) : Type
 | g (s' : List Fr) (st' : VSt) (h : ∀ G N,mstep D H leave G N s st = G s' st')
 | n (s' : List Fr) (st' : VSt) (h : ∀ G N,mstep D H leave G N s st = N s' st')
 | e (h : ∀ G N,mstep D H leave G N s st = leave st)
theorem mstep_det {G N : List Fr → VSt → Option R} {s : List Fr} {st : VSt} {r : R} (h : mstep D H leave G N s st = some r) : Nonempty (To D H leave s st) := by
 cases s with
 | nil => exact ⟨.e fun _ _ => rfl⟩
 | cons f s =>
   cases f with
   | e i => exact ⟨.g s st fun _ _ => rfl⟩
   | l b => exact ⟨.g (.c b :: .l b :: s) st fun _ _ => rfl⟩
   | c c =>
     cases c with
     | stop => simp [mstep] at h
     | skip => exact ⟨.g s st fun _ _ => rfl⟩
     | reg d ops keep keepR =>
       have hF := vrunOps_ok (R := R) (D := D) (H := H) ops ops st
       obtain ⟨st',_,_,h3⟩ := hF _ r (show vrunOps D H ops ops st (fun st' => G s (st'.restrict keep keepR)) = some r from h)
       exact ⟨.g s (st'.restrict keep keepR) fun G' _ => h3 _⟩
     | seq a b => exact ⟨.g (.c a :: .c b :: s) st fun _ _ => rfl⟩
     | cond c a b =>
       by_cases hc : c.ok = true
       ·cases hv : c.vv st <;> first
         | (simp [mstep,hc,hv] at h; done)
         | skip
        rename_i t
        cases t
        ·exact ⟨.g (.c b :: s) st fun G' N' => by simp [mstep,hc,hv]⟩
        ·exact ⟨.g (.c a :: s) st fun G' N' => by simp [mstep,hc,hv]⟩
       ·simp [mstep,hc] at h
     | block id b => exact ⟨.g (.c b :: .e id :: s) st fun _ _ => rfl⟩
     | loop b => exact ⟨.g (.c b :: .l b :: s) st fun _ _ => rfl⟩
     | exit id =>
       cases hu : unwind id s with
       | none => simp [mstep,hu,vopt] at h
       | some s' => exact ⟨.g s' st fun G' N' => by simp [mstep,hu,vopt]⟩
     | ret => exact ⟨.e fun _ _ => rfl⟩
     | opn i b =>
       rcases VSt.open1_is (R := R) H st i with h1 | ⟨st',h1,_⟩
       ·simp only [mstep,h1] at h; cases h
       ·exact ⟨.g (.c b :: s) st' fun G' N' => by simp only [mstep,h1]⟩
     | norm keep keepR b => exact ⟨.n (.c b :: s) (st.restrict keep keepR) fun _ _ => rfl⟩
theorem gN_succ : ∀ (n : Nat) {s : List Fr} {st : VSt} {r : R},gN D H leave n s st = some r → gN D H leave (n + 1) s st = some r
 | 0,s,st,r,h => by simp [gN] at h
 | n + 1,s,st,r,h => by
   have h' : mstep D H leave (gN D H leave n) (gN D H leave n) s st = some r := h
   show mstep D H leave (gN D H leave (n + 1)) (gN D H leave (n + 1)) s st = some r
   obtain ⟨t⟩ := mstep_det h'
   cases t with
   | g s' st' e => rw [e] at h' ⊢; exact gN_succ n h'
   | n s' st' e => rw [e] at h' ⊢; exact gN_succ n h'
   | e e => rw [e] at h' ⊢; exact h'
theorem gN_le {m n : Nat} (hmn : m ≤ n) {s : List Fr} {st : VSt} {r : R} (h : gN D H leave m s st = some r) : gN D H leave n s st = some r := by
 induction hmn with
 | refl => exact h
 | step _ ih => exact gN_succ _ ih
theorem goL_some {s : List Fr} {st : VSt} {r : R} : goL D H leave s st = some r ↔ ∃ n,gN D H leave n s st = some r := by
 constructor
 ·intro h
  unfold goL at h
  split at h
  ·rename_i he
   simp only [Option.some.injEq] at h
   exact ⟨he.choose,h ▸ he.choose_spec.choose_spec⟩
  ·cases h
 ·rintro ⟨n,hn⟩
  unfold goL
  have he : ∃ n r,gN D H leave n s st = some r := ⟨n,r,hn⟩
  rw [dif_pos he]
  have h1 := he.choose_spec.choose_spec
  have h2 := gN_le (Nat.le_max_left n he.choose) hn
  have h3 := gN_le (Nat.le_max_right n he.choose) h1
  rw [h2] at h3
  exact h3.symm
theorem goL_fix (s : List Fr) (st : VSt) : goL D H leave s st = mstep D H leave (goL D H leave) (goL D H leave) s st := by
 apply Option.ext
 intro r
 constructor
 ·intro h
  obtain ⟨n,hn⟩ := goL_some.1 h
  have hn : mstep D H leave (gN D H leave n) (gN D H leave n) s st = some r := gN_succ n hn
  obtain ⟨t⟩ := mstep_det hn
  cases t with
  | g s' st' e => rw [e] at hn ⊢; exact goL_some.2 ⟨n,hn⟩
  | n s' st' e => rw [e] at hn ⊢; exact goL_some.2 ⟨n,hn⟩
  | e e => rw [e] at hn ⊢; exact hn
 ·intro h
  obtain ⟨t⟩ := mstep_det h
  cases t with
  | g s' st' e =>
    rw [e] at h
    obtain ⟨n,hn⟩ := goL_some.1 h
    exact goL_some.2 ⟨n + 1,by rw [gN,e]; exact hn⟩
  | n s' st' e =>
    rw [e] at h
    obtain ⟨n,hn⟩ := goL_some.1 h
    exact goL_some.2 ⟨n + 1,by rw [gN,e]; exact hn⟩
  | e e =>
    rw [e] at h
    exact goL_some.2 ⟨1,by rw [gN,e]; exact h⟩
end
theorem goL_dn {R : Type} (D : List (Nat × Callee)) (H : List (Nat × ET)) (leave : VSt → Option R) : ∀ (n : Nat) (s : List Fr) (st : VSt),goL D H leave s st = dn D H leave (goL D H leave) n s st
 | 0,s,st => rfl
 | n + 1,s,st => by
   have ih : dn D H leave (goL D H leave) n = goL D H leave := by
    funext s st; exact (goL_dn D H leave n s st).symm
   rw [goL_fix,dn,ih]
theorem mk_f (D : List (Nat × Callee)) (H : List (Nat × ET)) (fn : Fn) (ps rs os : List MT) (x : tysU ps) (n : Nat) :
 (mkCallee D H fn ps rs os).f x = vopt (venter fn (vsU 0 ps x)) fun st => dn D H (vleave fn ps rs os (lens ps x)) (goL D H (vleave fn ps rs os (lens ps x))) n [.c fn.body] st := by
 simp only [mkCallee,← goL_dn]
end Go.Ab
namespace Go.Ab
noncomputable def modD (D : List (Nat × Callee)) (g : Nat) : Option Def := (dget D g).map fun c => .prim c.io fun _ as => c.cf as
theorem callF_modD (D : List (Nat × Callee)) (ex : C → St → Option (Ex × St)) : callF (modD D) ex = cfD D := by
 funext f as
 unfold callF modD cfD
 cases dget D f <;> rfl
theorem iosOf_modD (D : List (Nat × Callee)) : iosOf (modD D) = ioD D := by
 funext f
 unfold iosOf modD ioD vios
 cases dget D f <;> rfl
theorem exec_seq (M : Nat → Option Def) (n : Nat) (a b : C) (st : St) : exec M (n + 1) (.seq a b) st = match exec M n a st with | some (.normal,st') => exec M n b st' | r => r := rfl
theorem exec_block (M : Nat → Option Def) (n : Nat) (id : Nat) (b : C) (st : St) : exec M (n + 1) (.block id b) st = match exec M n b st with | some (.exit j,st') => if j = id then some (.normal,st') else some (.exit j,st') | r => r := rfl
theorem exec_loop (M : Nat → Option Def) (n : Nat) (b : C) (st : St) : exec M (n + 1) (.loop b) st = match exec M n b st with | some (.normal,st') => exec M n (.loop b) st' | r => r := rfl
theorem exec_up (D : List (Nat × Callee)) : ∀ (m : Nat) {c : C} {st : St} {r : Ex × St},exec (modD D) m c st = some r → exec (modD D) (m + 1) c st = some r
 | 0,c,st,r,h => by simp [exec] at h
 | m + 1,c,st,r,h => by
   cases c with
   | skip => simpa [exec] using h
   | reg d ops k kr =>
     have e : ∀ n,exec (modD D) (n + 1) (.reg d ops k kr) st = (runOps (cfD D) (iosOf (modD D)) ops ops st).map fun st' => (.normal,st'.restrict k kr) := fun n => by
      rw [← callF_modD D (exec (modD D) n)]; rfl
     rw [e] at h ⊢; exact h
   | seq a b =>
     rw [exec_seq] at h ⊢
     cases ha : exec (modD D) m a st with
     | none => rw [ha] at h; cases h
     | some p =>
       obtain ⟨e,st'⟩ := p
       rw [ha] at h
       rw [exec_up D m ha]
       cases e with
       | normal => exact exec_up D m h
       | exit i => exact h
       | ret => exact h
   | cond c a b =>
     have e : ∀ n,exec (modD D) (n + 1) (.cond c a b) st = match c.v st with | .bool t => exec (modD D) n (if t then a else b) st | _ => none := fun n => rfl
     rw [e] at h ⊢
     split at h
     ·exact exec_up D m h
     ·cases h
   | block id b =>
     rw [exec_block] at h ⊢
     cases hb : exec (modD D) m b st with
     | none => rw [hb] at h; cases h
     | some p =>
       rw [hb] at h
       rw [exec_up D m hb]
       exact h
   | loop b =>
     rw [exec_loop] at h ⊢
     cases hb : exec (modD D) m b st with
     | none => rw [hb] at h; cases h
     | some p =>
       obtain ⟨e,st'⟩ := p
       rw [hb] at h
       rw [exec_up D m hb]
       cases e with
       | normal => exact exec_up D m h
       | exit i => exact h
       | ret => exact h
   | exit id => simpa [exec] using h
   | ret => simpa [exec] using h
   | norm k kr b => exact exec_up D m (show exec (modD D) m b (st.restrict k kr) = some r from h)
   | opn i b => exact exec_up D m (show exec (modD D) m b (st.open1 i) = some r from h)
   | stop => simp [exec] at h
theorem exec_le {D : List (Nat × Callee)} {m n : Nat} (hmn : m ≤ n) {c : C} {st : St} {r : Ex × St} (h : exec (modD D) m c st = some r) : exec (modD D) n c st = some r := by
 induction hmn with
 | refl => exact h
 | step _ ih => exact exec_up D _ ih
def after (e : Ex) (s : List Fr) : Option (List Fr) :=
 match e with
 | .normal => some s
 | .exit id => unwind id s
 | .ret => some []
inductive Run (D : List (Nat × Callee)) : List Fr → St → St → Prop
 | nil (st : St) : Run D [] st st
 | e (id : Nat) (s : List Fr) (st f : St) (h : Run D s st f) : Run D (.e id :: s) st f
 | c (c : C) (s s' : List Fr) (st st' f : St) (m : Nat) (ex : Ex) (h : exec (modD D) m c st = some (ex,st')) (ha : after ex s = some s') (hr : Run D s' st' f) : Run D (.c c :: s) st f
 | l (b : C) (s : List Fr) (st f : St) (h : Run D (.c (.loop b) :: s) st f) : Run D (.l b :: s) st f
theorem Run.seq {D : List (Nat × Callee)} {a b : C} {s : List Fr} {st f : St} (h : Run D (.c a :: .c b :: s) st f) : Run D (.c (.seq a b) :: s) st f := by
 cases h with
 | c _ _ s1 _ st1 _ m ex he ha hr =>
   cases ex with
   | normal =>
     simp only [after,Option.some.injEq] at ha; subst ha
     cases hr with
     | c _ _ s2 _ st2 _ m2 ex2 he2 ha2 hr2 =>
       refine .c _ _ s2 _ st2 _ (max m m2 + 1) ex2 ?_ ha2 hr2
       rw [exec_seq,exec_le (Nat.le_max_left m m2) he]; exact exec_le (Nat.le_max_right m m2) he2
   | exit id =>
     refine .c _ _ s1 _ st1 _ (m + 1) (.exit id) ?_ ha hr
     rw [exec_seq,he]
   | ret =>
     refine .c _ _ s1 _ st1 _ (m + 1) .ret ?_ ha hr
     rw [exec_seq,he]
theorem Run.loop {D : List (Nat × Callee)} {b : C} {s : List Fr} {st f : St} (h : Run D (.c b :: .l b :: s) st f) : Run D (.c (.loop b) :: s) st f := by
 cases h with
 | c _ _ s1 _ st1 _ m ex he ha hr =>
   cases ex with
   | normal =>
     simp only [after,Option.some.injEq] at ha; subst ha
     cases hr with
     | l _ _ _ _ hr =>
       cases hr with
       | c _ _ s2 _ st2 _ m2 ex2 he2 ha2 hr2 =>
         refine .c _ _ s2 _ st2 _ (max m m2 + 1) ex2 ?_ ha2 hr2
         rw [exec_loop,exec_le (Nat.le_max_left m m2) he]; exact exec_le (Nat.le_max_right m m2) he2
   | exit id =>
     refine .c _ _ s1 _ st1 _ (m + 1) (.exit id) ?_ ha hr
     rw [exec_loop,he]
   | ret =>
     refine .c _ _ s1 _ st1 _ (m + 1) .ret ?_ ha hr
     rw [exec_loop,he]
theorem Run.block {D : List (Nat × Callee)} {id : Nat} {b : C} {s : List Fr} {st f : St} (h : Run D (.c b :: .e id :: s) st f) : Run D (.c (.block id b) :: s) st f := by
 cases h with
 | c _ _ s1 _ st1 _ m ex he ha hr =>
   cases ex with
   | normal =>
     simp only [after,Option.some.injEq] at ha; subst ha
     cases hr with
     | e _ _ _ _ hr =>
       refine .c _ _ s _ st1 _ (m + 1) .normal ?_ rfl hr
       rw [exec_block,he]
   | exit j =>
     simp only [after,unwind] at ha
     by_cases hj : id = j
     ·subst hj
      simp only [if_true,Option.some.injEq] at ha; subst ha
      refine .c _ _ s _ st1 _ (m + 1) .normal ?_ rfl hr
      rw [exec_block,he]; simp only [if_true]
     ·rw [if_neg hj] at ha
      refine .c _ _ s1 _ st1 _ (m + 1) (.exit j) ?_ ha hr
      rw [exec_block,he]; simp only; rw [if_neg (fun e => hj e.symm)]
   | ret =>
     refine .c _ _ s1 _ st1 _ (m + 1) .ret ?_ ha hr
     rw [exec_block,he]
section
variable {R : Type} {D : List (Nat × Callee)} {H : List (Nat × ET)} {leave : VSt → Option R}
theorem gN_run : ∀ (n : Nat) {s : List Fr} {st : VSt} {r : R},gN D H leave n s st = some r → ∃ stf : VSt,leave stf = some r ∧ Run D s st.a stf.a
 | 0,s,st,r,h => by simp [gN] at h
 | n + 1,s,st,r,h => by
   cases s with
   | nil => exact ⟨st,h,.nil _⟩
   | cons f s =>
     cases f with
     | e i =>
       obtain ⟨stf,h1,h2⟩ := gN_run n (show gN D H leave n s st = some r from h)
       exact ⟨stf,h1,.e _ _ _ _ h2⟩
     | l b =>
       obtain ⟨stf,h1,h2⟩ := gN_run n (show gN D H leave n (.c b :: .l b :: s) st = some r from h)
       exact ⟨stf,h1,.l _ _ _ _ h2.loop⟩
     | c c =>
       cases c with
       | stop => simp [gN,mstep] at h
       | skip =>
         obtain ⟨stf,h1,h2⟩ := gN_run n (show gN D H leave n s st = some r from h)
         exact ⟨stf,h1,.c _ _ s _ _ _ 1 .normal rfl rfl h2⟩
       | reg d ops keep keepR =>
         obtain ⟨st',e1,e2,_⟩ := vrunOps_ok (R := R) (D := D) (H := H) ops ops st _ r (show vrunOps D H ops ops st (fun st' => gN D H leave n s (st'.restrict keep keepR)) = some r from h)
         obtain ⟨stf,h1,h2⟩ := gN_run n e2
         refine ⟨stf,h1,.c _ _ s _ _ _ 1 .normal ?_ rfl h2⟩
         show (runOps (callF (modD D) (exec (modD D) 0)) (iosOf (modD D)) ops ops st.a).map _ = _
         rw [callF_modD,iosOf_modD,e1,Option.map_some,VSt.restrict_a]
       | seq a b =>
         obtain ⟨stf,h1,h2⟩ := gN_run n (show gN D H leave n (.c a :: .c b :: s) st = some r from h)
         exact ⟨stf,h1,h2.seq⟩
       | cond c a b =>
         by_cases hc : c.ok = true
         ·cases hv : c.vv st <;> first
           | (simp [gN,mstep,hc,hv] at h; done)
           | skip
          rename_i t
          have h' : gN D H leave n (.c (if t then a else b) :: s) st = some r := by
           cases t <;> simpa [gN,mstep,hc,hv] using h
          obtain ⟨stf,h1,h2⟩ := gN_run n h'
          refine ⟨stf,h1,?_⟩
          cases h2 with
          | c _ _ s1 _ st1 _ m ex he ha hr =>
            refine .c _ _ s1 _ st1 _ (m + 1) ex ?_ ha hr
            show (match c.v st.a with | .bool t => exec (modD D) m (if t then a else b) st.a | _ => none) = _
            rw [← Opd.vv_a st hc,hv]
            exact he
         ·simp [gN,mstep,hc] at h
       | block id b =>
         obtain ⟨stf,h1,h2⟩ := gN_run n (show gN D H leave n (.c b :: .e id :: s) st = some r from h)
         exact ⟨stf,h1,h2.block⟩
       | loop b =>
         obtain ⟨stf,h1,h2⟩ := gN_run n (show gN D H leave n (.c b :: .l b :: s) st = some r from h)
         exact ⟨stf,h1,h2.loop⟩
       | exit id =>
         cases hu : unwind id s with
         | none => simp [gN,mstep,hu,vopt] at h
         | some s' =>
           obtain ⟨stf,h1,h2⟩ := gN_run n (show gN D H leave n s' st = some r by simpa [gN,mstep,hu,vopt] using h)
           exact ⟨stf,h1,.c _ _ s' _ _ _ 1 (.exit id) rfl hu h2⟩
       | ret => exact ⟨st,h,.c _ _ [] _ _ _ 1 .ret rfl rfl (.nil _)⟩
       | opn i b =>
         rcases VSt.open1_is (R := R) H st i with h0 | ⟨st',h0,h0a⟩
         ·simp only [gN,mstep,h0] at h; cases h
         ·obtain ⟨stf,h1,h2⟩ := gN_run n (show gN D H leave n (.c b :: s) st' = some r by simpa only [gN,mstep,h0] using h)
          refine ⟨stf,h1,?_⟩
          cases h2 with
          | c _ _ s1 _ st1 _ m ex he ha hr =>
            refine .c _ _ s1 _ st1 _ (m + 1) ex ?_ ha hr
            rw [h0a] at he
            exact he
       | norm keep keepR b =>
         obtain ⟨stf,h1,h2⟩ := gN_run n (show gN D H leave n (.c b :: s) (st.restrict keep keepR) = some r from h)
         refine ⟨stf,h1,?_⟩
         cases h2 with
         | c _ _ s1 _ st1 _ m ex he ha hr =>
           refine .c _ _ s1 _ st1 _ (m + 1) ex ?_ ha hr
           rw [VSt.restrict_a] at he
           exact he
theorem goL_run {c : C} {st : VSt} {r : R} (h : goL D H leave [.c c] st = some r) : ∃ (stf : VSt) (m : Nat) (ex : Ex),leave stf = some r ∧ exec (modD D) m c st.a = some (ex,stf.a) ∧ (ex = .normal ∨ ex = .ret) := by
 obtain ⟨n,hn⟩ := goL_some.1 h
 obtain ⟨stf,h1,h2⟩ := gN_run n hn
 cases h2 with
 | c _ _ s1 _ st1 _ m ex he ha hr =>
   have : s1 = [] ∧ (ex = .normal ∨ ex = .ret) := by
    cases ex with
    | normal => simp only [after,Option.some.injEq] at ha; exact ⟨ha.symm,.inl rfl⟩
    | exit id => simp [after,unwind] at ha
    | ret => simp only [after,Option.some.injEq] at ha; exact ⟨ha.symm,.inr rfl⟩
   obtain ⟨rfl,hx⟩ := this
   generalize hf : stf.a = f at hr
   cases hr with
   | nil => exact ⟨stf,m,ex,h1,by rw [hf]; exact he,hx⟩
end
end Go.Ab
namespace Go.Ab
theorem visFn_a (v : V) : isFn v.a = visFn v := by cases v <;> rfl
theorem visLent_a (v : V) : isLent v.a = visLent v := by cases v <;> rfl
theorem vlentOk_a : ∀ (bs : List Bool) (l : List V),lentOk bs (l.map V.a) = vlentOk bs l
 | bs,[] => by cases bs <;> rfl
 | [],v :: l => by simp only [List.map_cons,lentOk,vlentOk,visLent_a,vlentOk_a [] l]
 | b :: bs,v :: l => by simp only [List.map_cons,lentOk,vlentOk,visLent_a,vlentOk_a bs l]
theorem venterArgs_a : ∀ {l : List V} {i : Nat} {st st1 : VSt},venterArgs i l st = some st1 → enterArgs i (l.map V.a) st.a = some st1.a
 | [],i,st,st1,h => by simp only [venterArgs,Option.some.injEq] at h; subst h; rfl
 | v :: l,i,st,st1,h => by
   have gen : (∀ z x,v ≠ .iob z x) → (∀ t xs,v ≠ .ios t xs) → enterArgs i ((v :: l).map V.a) st.a = some st1.a := by
    intro h1 h2
    have e : venterArgs i (v :: l) st = if vpure v || visFn v then venterArgs (i + 1) l (st.put (some i) v) else none := by
     cases v <;> first | rfl | exact absurd rfl (h1 _ _) | exact absurd rfl (h2 _ _)
    rw [e] at h
    split at h
    ·rename_i hp
     have := venterArgs_a h
     rw [VSt.put_a] at this
     have e2 : ∀ a : A,(∀ z x,a ≠ .iob z [x]) → (∀ z xs,a ≠ .ios z xs) → enterArgs i (a :: l.map V.a) st.a = if Ab.pure a || isFn a then enterArgs (i + 1) (l.map V.a) (st.a.put (some i) a) else none := by
      intro a ha hb
      rw [enterArgs]
      ·intro z x e; exact ha _ _ e
      ·intro z xs e; exact hb _ _ e
     rw [List.map_cons,e2,vpure_a,visFn_a,if_pos hp,this]
     ·intro z x e; cases v <;> simp [V.a] at e; exact h1 _ _ rfl
     ·intro z xs e; cases v <;> simp [V.a] at e; exact h2 _ _ rfl
    ·cases h
   cases v <;> first
    | (refine gen ?_ ?_ <;> (intros; simp; done))
    | skip
   ·rename_i z x
    simp only [venterArgs] at h
    split at h
    ·rename_i st2 e
     have := venterArgs_a h
     rw [VSt.put_a] at this
     simp only [List.map_cons,V.a,enterArgs,vtakeVar_a e,Option.bind_some]
     exact this
    ·cases h
   ·rename_i t xs
    simp only [venterArgs] at h
    split at h
    ·rename_i hi
     have := venterArgs_a h
     rw [VSt.put_a,VSt.setRoot_a,VSt.kill_a] at this
     simp only [List.map_cons,V.a,enterArgs,if_pos hi,List.length_map]
     exact this
    ·cases h
theorem venter_a {fn : Fn} {l : List V} {st : VSt} (h : venter fn l = some st) : fn.enter (l.map V.a) = some st.a := by
 unfold venter at h
 split at h
 ·rename_i hc
  simp only [Bool.and_eq_true,decide_eq_true_eq] at hc
  have := venterArgs_a h
  unfold Fn.enter
  rw [List.length_map,vlentOk_a,if_pos hc]
  exact this
 ·cases h
section
variable {R : Type}
theorem vrs_ok (st : VSt) (r : Rs) : Ok1 (R := R) (vrs st r) fun v => r.v st.a = some v.a := by
 cases r with
 | t i => exact Ok1.mk (x := vget st.t i) rfl
 | cell i n =>
   have e : vrs (R := R) st (.cell i n) = fun k => match vget st.t i with
    | .loc q j c =>
      (match rget st.r q with
       | some (.var _ x) => (match j with | 0 => vopt (vgetCells x.cells c n) k | _ => none)
       | some (.sl t xs) => (xs[j]?).bind fun x => vopt (vgetCells (t.vs x) c n) k
       | none => none)
    | _ => none := rfl
   rw [e]
   cases hv : vget st.t i <;> (try dsimp only) <;> first
    | exact Ok1.no
    | skip
   rename_i q j c
   cases hq : rget st.r q with
   | none => exact Ok1.no
   | some R0 =>
     cases R0 with
     | var z x =>
       cases j with
       | zero =>
         dsimp only
         refine Ok1.vopt' fun v hg => ?_
         simp only [Rs.v,VSt.a_t,hv,V.a,VSt.a_r,hq,Option.map_some,VR.a,Option.bind_some,List.getElem?_cons_zero,V.cells_a,vgetCells_a hg]
       | succ j => exact Ok1.no
     | sl t xs =>
       dsimp only
       refine Ok1.bind fun x hx => Ok1.vopt' fun v hg => ?_
       simp only [Rs.v,VSt.a_t,hv,V.a,VSt.a_r,hq,Option.map_some,VR.a,Option.bind_some,List.getElem?_map,hx]
       rw [ET.vs_a,vgetCells_a hg]
theorem vrsAll_ok (st : VSt) : ∀ l : List Rs,Ok1 (R := R) (vrsAll st l) fun vs => rsAll st.a l = some (vs.map V.a)
 | [] => Ok1.mk (x := []) rfl
 | r :: l => by
   refine Ok1.seq (F := vrs st r) (G := fun a (k : List V → Option R) => vrsAll st l fun xs => k (a :: xs)) (vrs_ok st r) fun a ha => ?_
   refine Ok1.seq (F := vrsAll st l) (G := fun xs (k : List V → Option R) => k (a :: xs)) (vrsAll_ok st l) fun xs hxs => Ok1.mk ?_
   simp only [rsAll,ha,hxs,Option.bind_some,Option.map_some,List.map_cons]
theorem vdropTok1_a (ks : List Nat) (v : V) : (vdropTok1 ks v).a = dropTok1 ks v.a := by
 cases v <;> first | rfl | (simp only [vdropTok1,V.a,dropTok1]; split <;> rfl)
theorem vtokOf1_a (v : V) : tokOf1 v.a = vtokOf1 v := by cases v <;> rfl
theorem vtoksOf_a (v : V) : toksOf v.a = vtoksOf v := by
 cases v <;> first | rfl | (simp only [V.a,toksOf,vtoksOf,V.as_map]; exact flatMap_a vtokOf1_a _)
theorem all_plain {t : ET} (h : t.plain = true) (xs : List t.ty) : (xs.map t.enc).all A.plain = true := by
 rw [List.all_map,List.all_eq_true]
 exact fun x _ => ET.enc_plain t x h
theorem vleave1_ok (st : VSt) (j : Nat) (own : Bool) (m : MT) : Ok1 (R := R) (fun k : V × VSt → Option R => vleave1 st j own m fun x s => k (x,s)) fun p => st.a.leave1 j own = some (p.1.a,p.2.a) := by
 unfold vleave1
 refine Ok1.ite (fun ho => ?_) fun ho => ?_
 ·subst ho
  cases hv : vget st.t (gs + j) <;> (try dsimp only) <;> first
   | exact Ok1.no
   | skip
  ·rename_i z
   cases m <;> (try dsimp only) <;> first
    | exact Ok1.no
    | skip
   rename_i t
   refine Ok1.ifc fun hz => Ok1.mk (x := (V.tok j t [],st)) ?_
   subst hz
   simp only [St.leave1,if_true,VSt.a_t,hv,V.a,List.map_nil]
  ·rename_i n t xs
   refine Ok1.ifc fun hp => Ok1.mk (x := (V.tok j t xs,st.killTok n)) ?_
   simp only [St.leave1,if_true,VSt.a_t,hv,V.a,all_plain hp,VSt.killTok_a]
  ·rename_i q o n
   cases hq : rget st.r q with
   | none => exact Ok1.no
   | some R0 =>
     cases R0 with
     | var z x => exact Ok1.no
     | sl t xs =>
       dsimp only
       refine Ok1.ifc fun hp => Ok1.mk (x := (V.tok j t ((vdrop o xs).take n),VSt.mk st.t (vless st.r [q]))) ?_
       simp only [St.leave1,if_true,VSt.a_t,hv,V.a,VSt.a_r,hq,Option.map_some,VR.a,Option.bind_some,← part_a,all_plain hp,VSt.less_a]
       rfl
  ·rename_i q i c
   have no : (∀ k : V → VSt → Option R,(match V.loc q i c with
    | .tok n t xs => if t.plain then k (.tok j t xs) (st.killTok n) else none
    | .nils z => (match m with | .tok t => if t.z = z then k (.tok j t []) st else none | _ => none)
    | .view q off n =>
      (match rget st.r q with
       | some (.sl t xs) => if t.plain then k (.tok j t ((vdrop off xs).take n)) { st with r := vless st.r [q] } else none
       | _ => none)
    | .loc q 0 0 =>
      (match rget st.r q with
       | some (.var z x) => vopt (vlends st.r x.cells) fun cs => k (.iob z (vreCell x cs)) { st with r := vless st.r (q :: x.cells.flatMap vrootOf1) }
       | _ => none)
    | _ => none) = none) → Ok1 (R := R) (fun k : V × VSt → Option R => match V.loc q i c with
    | .tok n t xs => if t.plain then k (.tok j t xs,st.killTok n) else none
    | .nils z => (match m with | .tok t => if t.z = z then k (.tok j t [],st) else none | _ => none)
    | .view q off n =>
      (match rget st.r q with
       | some (.sl t xs) => if t.plain then k (.tok j t ((vdrop off xs).take n),{ st with r := vless st.r [q] }) else none
       | _ => none)
    | .loc q 0 0 =>
      (match rget st.r q with
       | some (.var z x) => vopt (vlends st.r x.cells) fun cs => k (.iob z (vreCell x cs),{ st with r := vless st.r (q :: x.cells.flatMap vrootOf1) })
       | _ => none)
    | _ => none) fun p => st.a.leave1 j true = some (p.1.a,p.2.a) := fun h k r hk => by
      have h2 := h fun a b => k (a,b)
      exact absurd (h2.symm.trans hk) (by simp)
   cases i with
   | succ i => exact no fun _ => rfl
   | zero =>
     cases c with
     | succ c => exact no fun _ => rfl
     | zero =>
       show Ok1 (R := R) (fun k : V × VSt → Option R => match rget st.r q with
        | some (.var z x) => vopt (vlends st.r x.cells) fun cs => k (.iob z (vreCell x cs),{ st with r := vless st.r (q :: x.cells.flatMap vrootOf1) })
        | _ => none) _
       cases hq : rget st.r q with
       | none => exact Ok1.no
       | some R0 =>
         cases R0 with
         | sl t xs => exact Ok1.no
         | var z x =>
           dsimp only
           refine Ok1.vopt fun cs hcs => Ok1.mk (x := (V.iob z (vreCell x cs),VSt.mk st.t (vless st.r (q :: x.cells.flatMap vrootOf1)))) ?_
           simp only [St.leave1,if_true,VSt.a_t,hv,V.a,VSt.a_r,hq,Option.map_some,VR.a,Option.bind_some,V.cells_a,vlends_a hcs,vreCell_a,flatMap_a vrootOf1_a,VSt.less_a]
           rfl
 ·have hv := vtoData_ok (R := R) (VSt.mk st.t (vonly st.r (vnames st.r (vget st.t (gs + j))))) (vget st.t (gs + j))
  rw [VSt.only_a] at hv
  refine Ok1.seq (F := vtoData (VSt.mk st.t (vonly st.r (vnames st.r (vget st.t (gs + j))))).r (vget st.t (gs + j)))
   (G := fun x (k : V × VSt → Option R) => k (x,{ t := st.t.map fun p => (p.1,vcomps (vdropTok1 (vtoksOf (vget st.t (gs + j)))) p.2),r := vless st.r (vnames st.r (vget st.t (gs + j))) })) hv fun x hx => Ok1.mk ?_
  have ho' : own = false := by cases own <;> simp at ho ⊢
  subst ho'
  have e1 : st.a.leave1 j false = (toData (only st.a.r (names st.a.r (vget st.t (gs + j)).a)) (vget st.t (gs + j)).a).map fun x =>
   (x,{ t := fun i => comps (dropTok1 (toksOf (vget st.t (gs + j)).a)) (st.a.t i),r := less st.a.r (names st.a.r (vget st.t (gs + j)).a) }) := rfl
  have e2 : (VSt.mk (st.t.map fun p => (p.1,vcomps (vdropTok1 (vtoksOf (vget st.t (gs + j)))) p.2)) (vless st.r (vnames st.r (vget st.t (gs + j))))).a
   = { t := fun i => comps (dropTok1 (toksOf (vget st.t (gs + j)).a)) (st.a.t i),r := less st.a.r (names st.a.r (vget st.t (gs + j)).a) } := by
   rw [VSt.less_a,vnames_a,vtoksOf_a]
   refine St.ext' (fun i => ?_) fun i => rfl
   have := st.map_a (f := vcomps (vdropTok1 (vtoksOf (vget st.t (gs + j))))) (g := comps (dropTok1 (vtoksOf (vget st.t (gs + j))))) (vcomps_a (vdropTok1_a _)) rfl
   exact congrFun (congrArg St.t this) i
  rw [e1,e2,vnames_a,hx]
  rfl
theorem vleaves_ok : ∀ (bs : List Bool) (ms : List MT) (st : VSt) (j : Nat),Ok1 (R := R) (fun k : List V × VSt → Option R => vleaves st j bs ms fun xs s => k (xs,s)) fun p => st.a.leaves j bs = some (p.1.map V.a,p.2.a) ∧ p.1.length = ms.length
 | [],[],st,j => by
   have e : (fun k : List V × VSt → Option R => vleaves st j [] [] fun xs s => k (xs,s)) = fun k => k ([],st) := by funext k; rfl
   rw [e]
   exact Ok1.mk ⟨rfl,rfl⟩
 | [],_ :: _,st,j => by
   have e : ∀ m ms,(fun k : List V × VSt → Option R => vleaves st j [] (m :: ms) fun xs s => k (xs,s)) = fun k => none := by intro m ms; funext k; rfl
   rw [e]; exact Ok1.no
 | _ :: _,[],st,j => by
   have e : ∀ b bs,(fun k : List V × VSt → Option R => vleaves st j (b :: bs) [] fun xs s => k (xs,s)) = fun k => none := by intro b bs; funext k; rfl
   rw [e]; exact Ok1.no
 | b :: bs,m :: ms,st,j => by
   have e : (fun k : List V × VSt → Option R => vleaves st j (b :: bs) (m :: ms) fun xs s => k (xs,s)) = fun k => vleave1 st j b m fun x st1 => vleaves st1 (j + 1) bs ms fun xs st2 => k (x :: xs,st2) := by funext k; rfl
   rw [e]
   refine Ok1.seq (F := fun k : V × VSt → Option R => vleave1 st j b m fun x s => k (x,s)) (G := fun p (k : List V × VSt → Option R) => vleaves p.2 (j + 1) bs ms fun xs st2 => k (p.1 :: xs,st2)) (vleave1_ok st j b m) fun p hp => ?_
   refine Ok1.seq (F := fun k : List V × VSt → Option R => vleaves p.2 (j + 1) bs ms fun xs s => k (xs,s)) (G := fun r (k : List V × VSt → Option R) => k (p.1 :: r.1,r.2)) (vleaves_ok bs ms p.2 (j + 1)) fun r hr => Ok1.mk ⟨?_,?_⟩
   ·simp only [St.leaves,hp,Option.bind_some,hr.1,Option.map_some,List.map_cons]
   ·simp only [List.length_cons,hr.2]
theorem vouts_ok (st : VSt) : ∀ (ms : List MT) (i : Nat) (x : tysU ms),noTok ms = true → Ok1 (R := R) (vouts st i ms (lens ms x)) fun ws => ∀ j,Ab.outs st.a i ((vsU j ms x).map V.a) = some (ws.map V.a)
 | [],i,_,_ => Ok1.mk (x := []) fun _ => rfl
 | .d t :: ms,i,x,hn => by
   refine (vouts_ok st ms (i + 1) x.2 hn).weak fun ws hw j => ?_
   have : ∀ a : A,isLent a = false → ∀ l,Ab.outs st.a i (a :: l) = Ab.outs st.a (i + 1) l := fun a ha l => by
    cases a <;> first | rfl | (simp [isLent] at ha)
   simp only [vsU,List.map_cons]
   rw [this,hw]
   rw [MT.v,ET.v_a]
   cases t with
   | one c => cases c <;> rfl
   | agg cs => rfl
 | .p t :: ms,i,x,hn => (vouts_ok st ms (i + 1) x.2 hn).weak fun ws hw j => hw (j + 1)
 | .tok t :: ms,i,x,hn => by simp [noTok] at hn
 | .fn f ts :: ms,i,x,hn => (vouts_ok st ms (i + 1) x.2 hn).weak fun ws hw j => hw (j + 1)
 | .gone :: ms,i,x,hn => by
   have e : vouts (R := R) st i (.gone :: ms) (lens (.gone :: ms) x) = fun k => none := by funext k; rfl
   rw [e]; exact Ok1.no
 | .box t :: ms,i,x,hn => by
   have e : vouts (R := R) st i (.box t :: ms) (lens (.box t :: ms) x) = fun k => match rget st.r i with
    | some (.var z x') => if decide (z = t.z) && decide (i < 1000) then vopt (vlends st.r x'.cells) fun cs => vouts st (i + 1) ms (lens ms x.2) fun r => k (.iob z (vreCell x' cs) :: r) else none
    | _ => none := rfl
   rw [e]
   cases hq : rget st.r i with
   | none => exact Ok1.no
   | some R0 =>
     cases R0 with
     | sl u xs => exact Ok1.no
     | var z y =>
       dsimp only
       refine Ok1.ifc fun hc => Ok1.vopt fun cs hcs => ?_
       simp only [Bool.and_eq_true,decide_eq_true_eq] at hc
       refine Ok1.seq (F := vouts st (i + 1) ms (lens ms x.2)) (G := fun r (k : List V → Option R) => k (.iob z (vreCell y cs) :: r)) (vouts_ok st ms (i + 1) x.2 hn) fun r hr => Ok1.mk fun j => ?_
       simp only [vsU,List.map_cons,MT.v,V.a,Ab.outs,VSt.a_r,hq,Option.map_some,VR.a,Option.bind_some,hc,and_self,if_true,V.cells_a,vlends_a hcs,hr,vreCell_a]
 | .ios t :: ms,i,x,hn => by
   have e : vouts (R := R) st i (.ios t :: ms) (lens (.ios t :: ms) x) = fun k => match rget st.r i with
    | some (.sl u ys) => if decide (u.z = t.z) && decide (i < 1000) then (if decide (ys.length = x.1.length) then vouts st (i + 1) ms (lens ms x.2) fun r => k (.ios u ys :: r) else none) else none
    | none => vouts st (i + 1) ms (lens ms x.2) fun r => k (.any :: r)
    | _ => none := rfl
   rw [e]
   cases hq : rget st.r i with
   | none =>
     dsimp only
     refine Ok1.seq (F := vouts st (i + 1) ms (lens ms x.2)) (G := fun r (k : List V → Option R) => k (.any :: r)) (vouts_ok st ms (i + 1) x.2 hn) fun r hr => Ok1.mk fun j => ?_
     simp only [vsU,List.map_cons,MT.v,V.a,Ab.outs,VSt.a_r,hq,Option.map_none,hr,Option.map_some]
   | some R0 =>
     cases R0 with
     | var u xs => exact Ok1.no
     | sl u ys =>
       dsimp only
       refine Ok1.ifc fun hc => Ok1.ifc fun hl => ?_
       simp only [Bool.and_eq_true,decide_eq_true_eq] at hc hl
       refine Ok1.seq (F := vouts st (i + 1) ms (lens ms x.2)) (G := fun r (k : List V → Option R) => k (.ios u ys :: r)) (vouts_ok st ms (i + 1) x.2 hn) fun r hr => Ok1.mk fun j => ?_
       simp only [vsU,List.map_cons,MT.v,V.a,Ab.outs,VSt.a_r,hq,Option.map_some,VR.a,Option.bind_some,hc,hl,List.length_map,and_self,if_true,hr]
theorem vleave_ok {fn : Fn} {ps rs os : List MT} {x : tysU ps} {st : VSt} {y : tys1 (rs ++ os)} (hn : noTok ps = true) (h : vleave fn ps rs os (lens ps x) st = some y) :
 ∃ vs ws : List V,fn.leave (encU ps x) st.a = some (vs.map V.a,ws.map V.a) ∧ vs.length = rs.length ∧ of1 (rs ++ os) (vs ++ ws) = some y := by
 unfold vleave at h
 split at h
 ·rename_i hl
  simp only [decide_eq_true_eq] at hl
  obtain ⟨as,has,h,_⟩ := vrsAll_ok st fn.res _ y h
  obtain ⟨p,hp,h,_⟩ := vleaves_ok fn.own rs (st.lay as) 0 (fun p => vouts { p.2 with r := vless p.2.r fn.gone } 0 ps (lens ps x) fun ws => of1 (rs ++ os) (p.1 ++ ws)) y h
  obtain ⟨ws,hws,h,_⟩ := vouts_ok { p.2 with r := vless p.2.r fn.gone } ps 0 x hn _ y h
  refine ⟨p.1,ws,?_,hp.2,h⟩
  have h1 := hp.1
  rw [VSt.lay_a] at h1
  simp only [Fn.leave,if_pos hl,has,Option.bind_some,h1]
  have e1 : (VSt.a { p.2 with r := vless p.2.r fn.gone }) = { p.2.a with r := Ab.less p.2.a.r fn.gone } := VSt.less_a p.2 p.2.t fn.gone
  rw [encU,← e1,hws 0]
  rfl
 ·cases h
end
end Go.Ab
namespace Go.Ab
inductive WeakC : A → A → Prop
 | refl (a : A) : WeakC a a
 | nils (z : Nat) : WeakC (.nils z) (.own z [])
inductive WeakCs : List A → List A → Prop
 | nil : WeakCs [] []
 | cons (a b : A) (l m : List A) (h : WeakC a b) (t : WeakCs l m) : WeakCs (a :: l) (b :: m)
inductive WeakPs : List A → List A → Prop
 | refl (l : List A) : WeakPs l l
 | ptr (cs : List A) (c n : Nat) (l m : List A) (t : WeakPs l m) : WeakPs (.ptr cs c :: l) (.ptr ((cs.drop c).take n) 0 :: m)
inductive Weak : A → A → Prop
 | refl (a : A) : Weak a a
 | ptr (cs : List A) (c n : Nat) : Weak (.ptr cs c) (.ptr ((cs.drop c).take n) 0)
 | tok (k j z : Nat) (xs : List A) : Weak (.tok k z xs) (.tok j z xs)
 | iob (z : Nat) (x y : A) (h : WeakCs x.cells y.cells) : Weak (.iob z [x]) (.iob z [y])
 | fn (f : Nat) (l m : List A) (h : WeakPs l m) : Weak (.fn f l) (.fn f m)
inductive WeakL : List A → List A → Prop
 | nil : WeakL [] []
 | cons (a b : A) (l m : List A) (h : Weak a b) (t : WeakL l m) : WeakL (a :: l) (b :: m)
theorem WeakCs.refl : ∀ l : List A,WeakCs l l
 | [] => .nil
 | a :: l => .cons _ _ _ _ (.refl a) (WeakCs.refl l)
theorem WeakCs.len {l m : List A} (h : WeakCs l m) : l.length = m.length := by
 induction h with
 | nil => rfl
 | cons a b l m h t ih => simp [ih]
section
variable {φ : Nat → Nat} {w : World} {K : Nat → Prop}
theorem CellReps.weak {vs : List Value} {l m : List A} {bs : List Nat} (h : CellReps φ w K vs l bs) (hw : WeakCs l m) : CellReps φ w K vs m bs := by
 induction h generalizing m with
 | nil => cases hw; exact .nil
 | cons v a b vs as bs h t ih =>
   cases hw with
   | cons _ a' _ m' h1 h2 =>
     refine .cons _ _ _ _ _ _ ?_ (ih h2)
     cases h1 with
     | refl => exact h
     | nils z =>
       cases h with
       | data _ hr ha => cases hr; exact .own _ _ _ _ (.empty _ _)
theorem BoxRep.weak {v : Value} {z : Nat} {x y : A} {bs : List Nat} (h : BoxRep φ w K v z x bs) (hw : WeakCs x.cells y.cells) : BoxRep φ w K v z y bs := by
 cases h with
 | mk b o z x vs bs h hv hr hz => exact .mk b o z y vs bs (h.weak hw) hv hr (hw.len ▸ hz)
theorem Rep.weak_ptr {v : Value} {cs : List A} {c : Nat} (h : Rep φ w K v (.ptr cs c)) (n : Nat) : Rep φ w K v (.ptr ((cs.drop c).take n) 0) := by
 cases h with
 | ptr b o c cs vs hb h hv => exact .ptr b (o + c) 0 _ ((vs.drop c).take n) hb ((h.drop c).take n) ((hv.drop c).take n)
theorem Reps.weakP {vs : List Value} {l m : List A} (h : Reps φ w K vs l) (hw : WeakPs l m) : Reps φ w K vs m := by
 induction hw generalizing vs with
 | refl => exact h
 | ptr cs c n l m t ih =>
   cases h with
   | cons v _ vs _ h1 h2 => exact .cons _ _ _ _ (h1.weak_ptr n) (ih h2)
theorem Rep.weak_fn {v : Value} {f : Nat} {l m : List A} (h : Rep φ w K v (.fn f l)) (hw : WeakPs l m) : Rep φ w K v (.fn f m) := by
 cases h with
 | fn _ _ vs h => exact .fn _ _ vs (h.weakP hw)
theorem ArgRep.weak {v : Value} {a b : A} {bs : List Nat} (h : ArgRep φ w K v a bs) (hw : Weak a b) : ArgRep φ w K v b bs := by
 cases hw with
 | refl => exact h
 | ptr cs c n =>
   cases h with
   | data _ hr => exact .data _ _ (hr.weak_ptr n)
 | tok k j z xs =>
   cases h with
   | data _ hr => cases hr
 | iob z x y hc =>
   cases h with
   | data _ hr => cases hr
   | iob _ _ _ hb => exact .iob _ _ _ _ (hb.weak hc)
 | fn f l m hl =>
   cases h with
   | data _ hr => exact .data _ _ (hr.weak_fn hl)
theorem ResRep.weak {v : Value} {a b : A} {bs : List Nat} (h : ResRep φ w K v a bs) (hw : Weak a b) : ResRep φ w K v b bs := by
 cases hw with
 | refl => exact h
 | ptr cs c n =>
   cases h with
   | data _ hr => exact .data _ _ (hr.weak_ptr n)
 | tok k j z xs =>
   cases h with
   | data _ hr => cases hr
   | tok _ _ _ b ho hp => exact .tok _ _ _ _ _ ho hp
 | iob z x y hc =>
   cases h with
   | data _ hr => cases hr
   | iob _ _ _ hb => exact .iob _ _ _ _ (hb.weak hc)
 | fn f l m hl =>
   cases h with
   | data _ hr => exact .data _ _ (hr.weak_fn hl)
theorem ArgReps.weak {vs : List Value} {l m : List A} {bs : List Nat} (h : ArgReps φ w K vs l bs) (hw : WeakL l m) : ArgReps φ w K vs m bs := by
 induction h generalizing m with
 | nil => cases hw; exact .nil
 | cons v a b vs as bs h t ih =>
   cases hw with
   | cons _ a' _ m' h1 h2 => exact .cons _ _ _ _ _ _ (h.weak h1) (ih h2)
theorem ResReps.weak {vs : List Value} {l m : List A} {bs : List Nat} (h : ResReps φ w K vs l bs) (hw : WeakL l m) : ResReps φ w K vs m bs := by
 induction h generalizing m with
 | nil => cases hw; exact .nil
 | cons v a b vs as bs h t ih =>
   cases hw with
   | cons _ a' _ m' h1 h2 => exact .cons _ _ _ _ _ _ (h.weak h1) (ih h2)
theorem OutReps.weak {vs : List Value} {as as0 os os1 : List A} {bs : List Nat} (h : OutReps φ w K vs as os bs) (ha : WeakL as0 as) (ho : WeakL os os1) : OutReps φ w K vs as0 os1 bs := by
 induction h generalizing as0 os1 with
 | nil => cases ha; cases ho; exact .nil
 | data v a vs as os bs h t ih =>
   cases ha with
   | cons a0 _ l _ h1 h2 =>
     refine .data _ _ _ _ _ _ ?_ (ih h2 ho)
     cases h1 with
     | refl => exact h
     | ptr => exact ⟨by intros; simp,by intros; simp⟩
     | tok => exact ⟨by intros; simp,by intros; simp⟩
     | iob z x y _ => exact absurd rfl (h.1 z [y])
     | fn => exact ⟨by intros; simp,by intros; simp⟩
 | iob v z x y b vs as os bs h t ih =>
   cases ha with
   | cons a0 _ l _ h1 h2 =>
     cases ho with
     | cons _ o1 _ m h3 h4 =>
       have : ∃ x0,a0 = .iob z [x0] := by cases h1 <;> exact ⟨_,rfl⟩
       obtain ⟨x0,rfl⟩ := this
       cases h3 with
       | refl => exact .iob _ _ _ _ _ _ _ _ _ h (ih h2 h4)
       | iob _ _ y1 hc => exact .iob _ _ _ _ _ _ _ _ _ (h.weak hc) (ih h2 h4)
 | ios v z xs ys b vs as os bs h hl t ih =>
   cases ha with
   | cons a0 _ l _ h1 h2 =>
     cases ho with
     | cons _ o1 _ m h3 h4 =>
       cases h1
       cases h3
       exact .ios _ _ _ _ _ _ _ _ _ h hl (ih h2 h4)
 | gone v z xs vs as os bs t ih =>
   cases ha with
   | cons a0 _ l _ h1 h2 =>
     cases ho with
     | cons _ o1 _ m h3 h4 =>
       cases h1
       cases h3
       exact .gone _ _ _ _ _ _ _ (ih h2 h4)
end
theorem CallOk.weak {P : Program} {φ : Nat → Nat} {f : Nat} {as as0 res res1 outs outs1 : List A} (h : CallOk P φ f as res outs) (ha : WeakL as0 as) (hr : WeakL res res1) (ho : WeakL outs outs1) : CallOk P φ f as0 res1 outs1 := by
 intro w K vs bs h1 h2 h3 h4 h5
 refine (h w K vs bs (h1.weak ha) h2 h3 h4 h5).mono fun e w' hb => ?_
 obtain ⟨v,he,hb⟩ := hb
 refine ⟨v,he,hb.grow,hb.frame,hb.env,hb.fr,hb.room,?_⟩
 obtain ⟨rvs,K',rb,ob,e1,e2,e3,e4,e5,e6⟩ := hb.rest
 exact ⟨rvs,K',rb,ob,e1,e2,e3,e4.weak hr,e5.weak ha ho,e6⟩
theorem CT.enc_any (c : CT) (x : c.ty) : c.enc x ≠ .any := by cases c <;> (intro h; cases h)
theorem nownC_weak : ∀ (cs : CTs) (l : List A),WeakCs l (nownC cs l)
 | .nil,l => by
   have : nownC .nil l = l := by cases l <;> rfl
   rw [this]; exact WeakCs.refl l
 | .cons c cs,[] => .nil
 | .cons c cs,a :: l => by
   refine .cons _ _ _ _ ?_ (nownC_weak cs l)
   unfold nown1
   split
   ·split
    ·exact .nils _
    ·exact .refl _
   ·exact .refl _
theorem nownE_weak (t : ET) (x : A) : WeakCs x.cells (nownE t x).cells := by
 cases t with
 | one c =>
   simp only [nownE,nown1]
   split
   ·split
    ·exact .cons _ _ _ _ (.nils _) .nil
    ·exact WeakCs.refl _
   ·exact WeakCs.refl _
 | agg cs =>
   unfold nownE
   split
   ·rename_i h; cases h
   ·rename_i h; cases h; exact nownC_weak _ _
   ·exact WeakCs.refl _
theorem nsub_cells {t : ET} {cs : List A} {c : Nat} {x : t.ty} (h : A.ptr (nsub t cs c).cells 0 = .ptr ((t.vs x).map V.a) 0) : (nsub t cs c).cells = (cs.drop c).take t.z := by
 cases t with
 | one c0 =>
   have h' := h
   simp only [A.ptr.injEq,and_true] at h'
   rw [← ET.vs_a] at h'
   simp only [ET.enc,CT.enc_cells] at h'
   rw [h']
   simp only [nsub] at h'
   cases hc : cs[c]? with
   | none =>
     rw [hc] at h'
     simp only [Option.getD_none,A.cells,List.cons.injEq,and_true] at h'
     exact absurd h'.symm (CT.enc_any c0 x)
   | some d =>
     rw [hc] at h'
     have hd : (cs.drop c).take 1 = [d] := by
      have hlt : c < cs.length := by
       rcases Nat.lt_or_ge c cs.length with h1 | h1
       ·exact h1
       ·rw [List.getElem?_eq_none h1] at hc; cases hc
      rw [List.drop_eq_getElem_cons hlt]
      rw [List.getElem?_eq_getElem hlt] at hc
      simp only [Option.some.injEq] at hc
      simp [hc]
     simp only [ET.z,hd]
     simp only [Option.getD_some] at h'
     cases d <;> simp only [A.cells,List.cons.injEq,and_true] at h' <;> first
      | exact absurd h'.symm (CT.enc_any c0 x)
      | rw [h']
 | agg us => rfl
theorem normE_weak : ∀ {ts : List ET} {l : List A} {x : tysE ts},normE ts l = (vsE ts x).map V.a → WeakPs l (normE ts l)
 | [],l,_,_ => by
   have : normE [] l = l := by cases l <;> rfl
   rw [this]; exact .refl _
 | t :: ts,[],_,h => by simp [normE,vsE] at h
 | t :: ts,a :: l,x,h => by
   by_cases ha : ∃ cs c,a = .ptr cs c
   ·obtain ⟨cs,c,rfl⟩ := ha
    simp only [normE,vsE,List.map_cons,List.cons.injEq,V.a,V.as_map] at h ⊢
    rw [nsub_cells h.1]
    exact .ptr _ _ _ _ _ (normE_weak h.2)
   ·have : normE (t :: ts) (a :: l) = a :: l := by
     unfold normE
     split
     ·rename_i e1 e2; cases e2; exact absurd ⟨_,_,rfl⟩ ha
     ·rfl
    rw [this]; exact .refl _
theorem MT.norm_weak {m : MT} {a : A} {x : m.ty} {j : Nat} (h : m.norm a = m.enc j x) : Weak a (m.enc j x) := by
 rw [← h]
 unfold MT.norm
 split
 ·rename_i f ts g l
  refine .fn _ _ _ ?_
  have h' : A.fn g (normE ts l) = .fn f ((vsE ts x).map V.a) := by
   have := h
   simp only [MT.norm,MT.enc,MT.v,V.a,V.as_map] at this
   exact this
  simp only [A.fn.injEq] at h'
  exact normE_weak h'.2
 ·rename_i t cs c
  have h' : A.ptr (nsub t cs c).cells 0 = .ptr ((t.vs x).map V.a) 0 := by
   have := h
   simp only [MT.norm,MT.enc,MT.v,V.a,V.as_map] at this
   exact this
  rw [nsub_cells h']
  exact .ptr _ _ _
 ·exact .iob _ _ _ (nownE_weak _ _)
 ·exact .refl _
theorem normU_weak : ∀ {ms : List MT} {as : List A} {x : tysU ms} {j : Nat},normU ms as = (vsU j ms x).map V.a → WeakL as ((vsU j ms x).map V.a)
 | [],[],_,_,_ => .nil
 | [],_ :: _,_,_,h => by simp [normU,vsU] at h
 | m :: ms,[],_,_,h => by simp [normU,vsU] at h
 | m :: ms,a :: as,x,j,h => by
   simp only [normU,vsU,List.map_cons,List.cons.injEq] at h
   exact .cons _ _ _ _ (MT.norm_weak h.1) (normU_weak h.2)
theorem MT.of_weak {m : MT} {v : V} {x : m.ty} (h : m.of v = some x) (j : Nat) : Weak v.a (m.enc j x) := by
 cases m with
 | tok t =>
   cases v <;> simp only [MT.of] at h <;> first | cases h | skip
   obtain ⟨rfl,h⟩ := castL_eq h
   cases h
   exact .tok _ _ _ _
 | d t => exact MT.norm_weak (MT.of_a (by intro t h; cases h) h j)
 | p t => exact MT.norm_weak (MT.of_a (by intro t h; cases h) h j)
 | box t => exact MT.norm_weak (MT.of_a (by intro t h; cases h) h j)
 | ios t => exact MT.norm_weak (MT.of_a (by intro t h; cases h) h j)
 | fn f ts => exact MT.norm_weak (MT.of_a (by intro t h; cases h) h j)
 | gone => exact MT.norm_weak (MT.of_a (by intro t h; cases h) h j)
theorem of1_weak : ∀ {ms : List MT} {l : List V} {y : tys1 ms} {j : Nat},of1 ms l = some y → WeakL (l.map V.a) ((vs1 j ms y).map V.a)
 | [],[],_,_,_ => .nil
 | [],_ :: _,_,_,h => by simp [of1] at h
 | [m],[],_,_,h => by simp [of1] at h
 | [m],[v],y,j,h => .cons _ _ _ _ (MT.of_weak h j) .nil
 | [m],_ :: _ :: _,_,_,h => by simp [of1] at h
 | m :: n :: ms,[],_,_,h => by simp [of1] at h
 | m :: n :: ms,v :: l,y,j,h => by
   simp only [of1] at h
   split at h
   ·rename_i x z e1 e2
    simp only [Option.some.injEq] at h; subst h
    exact .cons _ _ _ _ (MT.of_weak e1 j) (of1_weak e2)
   ·cases h
theorem WeakL.split {l1 l2 m : List A} (h : WeakL (l1 ++ l2) m) : WeakL l1 (m.take l1.length) ∧ WeakL l2 (m.drop l1.length) := by
 induction l1 generalizing m with
 | nil => exact ⟨by simpa using WeakL.nil,by simpa using h⟩
 | cons a l ih =>
   cases h with
   | cons _ b _ m' h1 h2 =>
     obtain ⟨i1,i2⟩ := ih h2
     exact ⟨.cons _ _ _ _ h1 i1,i2⟩
def DOk (P : Program) (φ : Nat → Nat) (D : List (Nat × Callee)) : Prop :=
 ∀ g c,dget D g = some c → Entered P (φ g) ∧ ∀ as res outs,c.cf as = some (res,outs) → CallOk P φ g as res outs
def FOk (P : Program) (φ : Nat → Nat) (g : Nat) (c : Callee) : Prop := Entered P (φ g) ∧ ∀ as res outs,c.cf as = some (res,outs) → CallOk P φ g as res outs
theorem DOk.nil {P : Program} {φ : Nat → Nat} : DOk P φ [] := fun g c h => by simp [dget] at h
theorem DOk.cons {P : Program} {φ : Nat → Nat} {D : List (Nat × Callee)} {g : Nat} {c : Callee} (h : FOk P φ g c) (hD : DOk P φ D) : DOk P φ ((g,c) :: D) := fun g' c' h' => by
 simp only [dget] at h'
 split at h'
 ·rename_i e; simp only [Option.some.injEq] at h'; subst h'; subst e; exact h
 ·exact hD g' c' h'
def chkFn (P : Program) (φ : Nat → Nat) (g : Nat) (fn : Fn) : Bool :=
 match P.funcs[φ g]? with
 | some mf =>
   match mf.body with
   | some c => !(mf.name == "runtime.NumGoroutine") && (chkCode P φ mf.ntmps fn.io fn.body c && (chkRs P mf.results.toList fn.res && decide (fn.np ≤ mf.ntmps)))
   | none => false
 | none => false
theorem fn_ok {P : Program} {φ : Nat → Nat} (hm : P.follows .mixedOrders = true) {D : List (Nat × Callee)} (hD : DOk P φ D) {g : Nat} {fn : Fn} (hc : chkFn P φ g fn = true) (H : List (Nat × ET)) (ps rs os : List MT) :
 FOk P φ g (mkCallee D H fn ps rs os) := by
 have hir : ∃ mf c,P.funcs[φ g]? = some mf ∧ mf.name ≠ "runtime.NumGoroutine" ∧ mf.body = some c ∧ chkCode P φ mf.ntmps fn.io fn.body c = true ∧ chkRs P mf.results.toList fn.res = true ∧ fn.np ≤ mf.ntmps := by
  unfold chkFn at hc
  split at hc
  ·rename_i mf e1
   split at hc
   ·rename_i c e2
    simp only [Bool.and_eq_true,Bool.not_eq_true',beq_eq_false_iff_ne,decide_eq_true_eq] at hc
    exact ⟨mf,c,e1,hc.1,e2,hc.2.1,hc.2.2.1,hc.2.2.2⟩
   ·cases hc
  ·cases hc
 refine ⟨?_,fun as res outs h => ?_⟩
 ·obtain ⟨mf,c,e1,e2,e3,_⟩ := hir
  exact ⟨mf,e1,e2,by rw [e3]; rfl⟩
 ·unfold Callee.cf at h
  split at h
  ·rename_i hx
   obtain ⟨y,hy,h⟩ := Option.map_eq_some_iff.1 h
   obtain ⟨ht,hn⟩ := hx.choose_spec
   generalize hx.choose = x at hy hn
   have ht : noTok ps = true := ht
   have hy' : vopt (venter fn (vsU 0 ps x)) (fun st => goL D H (vleave fn ps rs os (lens ps x)) [.c fn.body] st) = some y := hy
   cases he : venter fn (vsU 0 ps x) with
   | none => rw [he] at hy'; cases hy'
   | some st0 =>
     rw [he] at hy'
     obtain ⟨stf,m,ex,hl,hex,hxe⟩ := goL_run (show goL D H _ _ _ = some y from hy')
     obtain ⟨vs,ws,hleave,hlen,hof⟩ := vleave_ok ht hl
     have hen := venter_a he
     have hMD : ProgOk P φ (modD D) := by
      refine ⟨fun f fn' hf => ?_,fun f io gg hf args res outs hg => ?_⟩
      ·unfold modD at hf
       cases hd : dget D f <;> rw [hd] at hf <;> simp at hf
      ·unfold modD at hf
       cases hd : dget D f with
       | none => rw [hd] at hf; simp at hf
       | some c =>
         rw [hd] at hf
         simp only [Option.map_some,Option.some.injEq,Def.prim.injEq] at hf
         obtain ⟨rfl,rfl⟩ := hf
         exact ⟨(hD f c hd).1,(hD f c hd).2 args res outs hg⟩
     have hM : ProgOk P φ (fun k => if k = g then some (.ir fn) else none) := by
      refine ⟨fun f fn' hf => ?_,fun f io gg hf => ?_⟩
      ·split at hf
       ·rename_i e; simp only [Option.some.injEq,Def.ir.injEq] at hf; subst hf; subst e; exact hir
       ·cases hf
      ·split at hf <;> cases hf
     have hcf := callF_ok hM (all_ok hm hMD m)
     have hrun : callF (fun k => if k = g then some (.ir fn) else none) (exec (modD D) m) g (encU ps x) = some (vs.map V.a,ws.map V.a) := by
      unfold callF
      simp only [if_true]
      rw [show encU ps x = (vsU 0 ps x).map V.a from rfl,hen]
      simp only [Option.bind_some,hex]
      rcases hxe with rfl | rfl
      ·exact hleave
      ·exact hleave
     have hok := (hcf g _ _ _ hrun).2
     have hw := of1_weak (j := 0) hof
     rw [List.map_append] at hw
     obtain ⟨w1,w2⟩ := hw.split
     rw [List.length_map,hlen,← List.map_take] at w1
     rw [List.length_map,hlen,← List.map_drop] at w2
     have hres : (res,outs) = resA (mkCallee D H fn ps rs os) y := h.symm
     simp only [resA,Prod.mk.injEq] at hres
     rw [hres.1,hres.2]
     exact hok.weak (normU_weak hn) w1 w2
  ·cases h
end Go.Ab
namespace Go.Ab
open Go.ChangeShapes Go.WideShapes Go.ChangeAt Go.RowKit
mutual
def CT.wf : (c : CT) → c.ty → Prop
 | .bool,_ => True
 | .int k,n => (Lit.int k n).wf = true
 | .str,s => s.length ≤ Go.maxLen
 | .sl t,xs => xs.length ≤ Go.maxLen ∧ ∀ x ∈ xs,t.wf x
 | .own t,xs => False
def ET.wf : (t : ET) → t.ty → Prop
 | .one c,x => c.wf x
 | .agg cs,x => cs.wf x
def CTs.wf : (cs : CTs) → cs.ty → Prop
 | .nil,_ => True
 | .cons c cs,x => c.wf x.1 ∧ cs.wf x.2
end
mutual
def tyCk (P : Program) : Nat → TypeId → CTs → Option (Nat × CTs)
 | 0,_,_ => none
 | n + 1,t,cs =>
   match P.underlying t with
   | some .bool => (match cs with | .cons .bool r => some (1,r) | _ => none)
   | some (.int k) => (match cs with | .cons (.int k') r => if k = k' then some (1,r) else none | _ => none)
   | some .string => (match cs with | .cons .str r => some (1,r) | _ => none)
   | some (.slice e) => (match cs with | .cons (.sl E) r => if elCk P n e E then some (1,r) else none | _ => none)
   | some (.struct fs) => (match fsCk P n fs.toList 0 cs with | some (u,r) => if P.cellsOf t = u then some (u,r) else none | none => none)
   | _ => none
def fsCk (P : Program) : Nat → List Field → Nat → CTs → Option (Nat × CTs)
 | 0,_,_,_ => none
 | n + 1,[],pos,cs => some (pos,cs)
 | n + 1,f :: fs,pos,cs =>
   match tyCk P n f.type cs with
   | some (u,r) => if f.offset = pos ∧ P.cellsOf f.type = u then fsCk P n fs (pos + u) r else none
   | none => none
def elCk (P : Program) : Nat → TypeId → ET → Bool
 | 0,_,_ => false
 | n + 1,e,.agg us =>
   match tyCk P n e us with
   | some (u,.nil) => decide (P.cellsOf e = u) && decide (us.len = u) && decide (0 < u)
   | _ => false
 | n + 1,e,.one c =>
   match tyCk P n e (.cons c .nil) with
   | some (u,.nil) => decide (P.cellsOf e = u) && decide (u = 1)
   | _ => false
end
section
variable {H : Type} {enc : TypeId × Value → H} {P : Program} {φ : Nat → Nat} {w : World} {base : Nat} {sp : Nat → Bool} {held : Bool}
def Pre (φ : Nat → Nat) (w : World) (vals : List Value) (cs r : CTs) : Prop :=
 ∀ (vals2 : List Value) (y : r.ty),Reps φ w (fun b => b < w.heap.size) vals2 (r.enc y) → r.wf y → ∃ x : cs.ty,Reps φ w (fun b => b < w.heap.size) (vals ++ vals2) (cs.enc x) ∧ cs.wf x
theorem Pre.one {v : Value} {c : CT} {r : CTs} (x : c.ty) (h : Rep φ w (fun b => b < w.heap.size) v (c.enc x)) (hw : c.wf x) : Pre φ w [v] (.cons c r) r :=
 fun vals2 y hy hwy => ⟨(x,y),.cons _ _ _ _ h hy,hw,hwy⟩
theorem read_ok : ∀ (n : Nat),
 (∀ (t : TypeId) (cs : CTs) (u : Nat) (r : CTs) (fuel : Nat) (vals : List Value) (x : DataW H × List MemPlace),tyCk P n t cs = some (u,r) → DataW.trod enc P w base sp held fuel t vals = some x → vals.length = u ∧ Pre φ w vals cs r) ∧
 (∀ (fs : List Field) (pos : Nat) (cs : CTs) (u : Nat) (r : CTs) (vals : List Value),fsCk P n fs pos cs = some (u,r) → vals.length = u →
   (∀ f ∈ fs,∃ fuel x,DataW.trod enc P w base sp held fuel f.type ((vals.drop f.offset).take (P.cellsOf f.type)) = some x) → Pre φ w (vals.drop pos) cs r) ∧
 (∀ (e : TypeId) (E : ET) (fuel : Nat) (vals : List Value) (x : DataW H × List MemPlace),elCk P n e E = true → DataW.trod enc P w base sp held fuel e vals = some x →
   vals.length = P.cellsOf e ∧ P.cellsOf e = E.z ∧ 0 < E.z ∧ ∃ y : E.ty,Reps φ w (fun b => b < w.heap.size) vals (E.enc y).cells ∧ E.wf y)
 | 0 => ⟨fun t cs u r fuel vals x h => by simp [tyCk] at h,fun fs pos cs u r vals h => by simp [fsCk] at h,fun e E fuel vals x h => by simp [elCk] at h⟩
 | n + 1 => by
   obtain ⟨ih1,ih2,ih3⟩ := read_ok n
   refine ⟨fun t cs u r fuel vals x h ht => ?_,fun fs pos cs u r vals h hl hf => ?_,fun e E fuel vals x h ht => ?_⟩
   ·unfold tyCk at h
    split at h
    ·rename_i hu
     obtain ⟨b,rfl,rfl⟩ := DataW.trod_bool hu ht
     split at h
     ·simp only [Option.some.injEq,Prod.mk.injEq] at h
      obtain ⟨rfl,rfl⟩ := h
      exact ⟨rfl,Pre.one (c := .bool) b (.bool b) trivial⟩
     ·cases h
    ·rename_i k hu
     obtain ⟨m,rfl,rfl,hw⟩ := DataW.trod_int hu ht
     split at h
     ·split at h
      ·rename_i hk
       subst hk
       simp only [Option.some.injEq,Prod.mk.injEq] at h
       obtain ⟨rfl,rfl⟩ := h
       exact ⟨rfl,Pre.one (c := .int k) m (.int k m) hw⟩
      ·cases h
     ·cases h
    ·rename_i hu
     obtain ⟨s,rfl,rfl,hs⟩ := DataW.trod_string hu ht
     split at h
     ·simp only [Option.some.injEq,Prod.mk.injEq] at h
      obtain ⟨rfl,rfl⟩ := h
      refine ⟨rfl,Pre.one (c := .str) s.data.toList ?_ ?_⟩
      ·have : s = ⟨s.data.toList.toArray⟩ := by cases s; simp
       exact this ▸ Rep.str s.data.toList
      ·show s.data.toList.length ≤ _
       simpa using hs
     ·cases h
    ·rename_i e hu
     split at h
     ·rename_i E r'
      split at h
      ·rename_i hE
       simp only [Option.some.injEq,Prod.mk.injEq] at h
       obtain ⟨rfl,rfl⟩ := h
       rcases Go.Deep.open_slice hu ht with ⟨rfl,_⟩ | ⟨a,len,cap,m,fu,Dd,Pl,rfl,hb,hlc,hcm,hm,_,hx⟩
       ·exact ⟨rfl,Pre.one (c := .sl E) [] (.slE none 0 _) ⟨Nat.zero_le _,by intro x hx; cases hx⟩⟩
       ·refine ⟨rfl,?_⟩
        have hlm : len ≤ m := by rw [hm]; split <;> omega
        have els : ∀ i,i < len → ∃ (cs' : List Value) (y : E.ty),w.cells? base (a.add (i * P.cellsOf e)) (P.cellsOf e) = some cs' ∧ cs'.length = E.z ∧ P.cellsOf e = E.z ∧ 0 < E.z ∧ Reps φ w (fun b => b < w.heap.size) cs' (E.enc y).cells ∧ E.wf y := fun i hi => by
         obtain ⟨cs',h1,h2⟩ := hx i (by omega)
         obtain ⟨g1,g2,g3,y,g4,g5⟩ := ih3 e E fu cs' _ hE h2
         exact ⟨cs',y,h1,by omega,g2,g3,g4,g5⟩
        by_cases h0 : len = 0
        ·subst h0
         exact Pre.one (c := .sl E) [] (.slE (some a) cap _) ⟨Nat.zero_le _,by intro x hx; cases hx⟩
        ·obtain ⟨cs0,y0,q1,q2,q3,q4,_⟩ := els 0 (by omega)
         have hspot : a.spot = none ∧ a.block < w.heap.size := by
          obtain ⟨_,hl0,hc0⟩ := World.cells?_some q1
          have h3 := hc0 0 (by omega)
          rw [List.getElem?_eq_getElem (by omega)] at h3
          simp only [Nat.zero_mul,Addr.add,if_true] at h3
          unfold World.cell? at h3
          split at h3
          ·rename_i c t' f' hbk
           refine ⟨?_,?_⟩
           ·cases hs : a.spot with
            | none => rfl
            | some p => rw [hs] at h3; simp at h3
           ·rcases Nat.lt_or_ge a.block w.heap.size with hlt | hge
            ·exact hlt
            ·rw [Array.getElem?_eq_none hge] at hbk; cases hbk
          ·cases h3
         obtain ⟨b,o,spt⟩ := a
         obtain ⟨hsn,hbw⟩ := hspot
         simp only at hsn hbw
         subst hsn
         have build : ∀ k,k ≤ len → ∃ (vs : List Value) (ys : List E.ty),ys.length = k ∧ vs.length = k * E.z ∧ Reps φ w (fun b => b < w.heap.size) vs ((ys.map E.enc).flatMap A.cells) ∧ Cells w b o vs ∧ ∀ y ∈ ys,E.wf y := by
          intro k
          induction k with
          | zero => exact fun _ => ⟨[],[],rfl,by simp,.nil,Cells.nil,by intro y hy; cases hy⟩
          | succ k ihk =>
            intro hk
            obtain ⟨vs,ys,e1,e2,e3,e4,e5⟩ := ihk (by omega)
            obtain ⟨cs',y,f1,f2,f3,f4,f5,f6⟩ := els k (by omega)
            refine ⟨vs ++ cs',ys ++ [y],by simp [e1],by simp [e2,f2,Nat.succ_mul],?_,?_,?_⟩
            ·rw [List.map_append,List.flatMap_append]
             refine e3.append ?_
             simpa using f5
            ·refine e4.append ?_
             obtain ⟨_,g1,g2⟩ := World.cells?_some f1
             intro j v hj
             have hjl : j < cs'.length := by
              rcases Nat.lt_or_ge j cs'.length with h1 | h1
              ·exact h1
              ·rw [List.getElem?_eq_none h1] at hj; cases hj
             have := g2 j (by omega)
             rw [hj] at this
             rw [← this,e2,← f3]
             congr 1
             have aa : ∀ (x y : Nat),(Addr.add ⟨b,x,none⟩ y) = ⟨b,x + y,none⟩ := fun x y => by
              unfold Addr.add; split
              ·rename_i h; subst h; rfl
              ·rfl
             rw [aa,aa]
            ·intro z hz
             rcases List.mem_append.1 hz with h1 | h1
             ·exact e5 z h1
             ·simp at h1; subst h1; exact f6
         obtain ⟨vs,ys,e1,e2,e3,e4,e5⟩ := build len (Nat.le_refl _)
         refine Pre.one (c := .sl E) ys ?_ ⟨by omega,e5⟩
         have := Rep.sl (φ := φ) (w := w) (ok := fun b => b < w.heap.size) b o cap E.z (ys.map E.enc) vs hbw (fun x hx => by
          obtain ⟨y,_,rfl⟩ := List.mem_map.1 hx; exact ET.enc_z E y) (by rw [List.length_map]; omega) e3 e4
         rw [List.length_map,e1] at this
         exact this
      ·cases h
     ·cases h
    ·rename_i fs hu
     split at h
     ·rename_i u' r' hfs
      split at h
      ·rename_i hcell
       simp only [Option.some.injEq,Prod.mk.injEq] at h
       obtain ⟨rfl,rfl⟩ := h
       obtain ⟨xs,m,rfl,rfl,hlen,hxl,hx⟩ := DataW.trod_struct hu ht
       refine ⟨by omega,?_⟩
       have := ih2 fs.toList 0 cs _ _ vals hfs (by omega) (fun f hf => by
        obtain ⟨i,hi,hfi⟩ := List.getElem_of_mem hf
        have hi' : i < fs.size := by simpa using hi
        have h1 := hx i f (by rw [← Array.getElem?_toList,List.getElem?_eq_getElem hi,hfi])
        rw [List.getElem?_eq_getElem (by omega)] at h1
        exact ⟨m,_,h1⟩)
       simpa using this
      ·cases h
     ·cases h
    ·cases h
   ·cases fs with
    | nil =>
      simp only [fsCk,Option.some.injEq,Prod.mk.injEq] at h
      obtain ⟨rfl,rfl⟩ := h
      intro vals2 y hy hwy
      exact ⟨y,by rw [List.drop_eq_nil_of_le (by omega)]; exact hy,hwy⟩
    | cons f fs =>
      simp only [fsCk] at h
      split at h
      ·rename_i u' r' hty
       split at h
       ·rename_i hc
        obtain ⟨hoff,hcl⟩ := hc
        obtain ⟨fuel,x,hx⟩ := hf f (by simp)
        obtain ⟨hl1,hp1⟩ := ih1 f.type cs u' r' fuel _ x hty hx
        have hp2 := ih2 fs (pos + u') r' u r vals h hl (fun g hg => hf g (by simp [hg]))
        intro vals2 y hy hwy
        obtain ⟨y1,hy1,hw1⟩ := hp2 vals2 y hy hwy
        obtain ⟨y2,hy2,hw2⟩ := hp1 _ y1 hy1 hw1
        refine ⟨y2,?_,hw2⟩
        have e : vals.drop pos ++ vals2 = (vals.drop f.offset).take (P.cellsOf f.type) ++ (vals.drop (pos + u') ++ vals2) := by
         rw [hoff,hcl,← List.append_assoc]
         congr 1
         rw [← List.drop_drop,List.take_append_drop]
        rw [e]; exact hy2
       ·cases h
      ·cases h
   ·cases E with
    | agg us =>
      simp only [elCk] at h
      split at h
      ·rename_i u' hty
       simp only [Bool.and_eq_true,decide_eq_true_eq] at h
       obtain ⟨⟨h1,h2⟩,h3⟩ := h
       obtain ⟨hl1,hp1⟩ := ih1 e us u' .nil fuel vals x hty ht
       obtain ⟨y,hy,hw⟩ := hp1 [] () .nil trivial
       rw [List.append_nil] at hy
       exact ⟨by omega,by rw [ET.z]; omega,by rw [ET.z]; omega,y,hy,hw⟩
      ·cases h
    | one c =>
      simp only [elCk] at h
      split at h
      ·rename_i u' hty
       simp only [Bool.and_eq_true,decide_eq_true_eq] at h
       obtain ⟨h1,h2⟩ := h
       obtain ⟨hl1,hp1⟩ := ih1 e (.cons c .nil) u' .nil fuel vals x hty ht
       obtain ⟨y,hy,hw⟩ := hp1 [] () .nil trivial
       rw [List.append_nil] at hy
       refine ⟨by omega,by rw [ET.z]; omega,by rw [ET.z]; omega,y.1,?_,hw.1⟩
       rw [ET.enc,CT.enc_cells]
       exact hy
      ·cases h
end
end Go.Ab
namespace Go.Ab
open Go.ChangeShapes Go.WideShapes Go.ChangeAt Go.RowKit
def topCk (P : Program) (n : Nat) (t : TypeId) : MT → Bool
 | .d (.agg us) => (match P.underlying t with | some (.struct _) => elCk P n t (.agg us) | _ => false)
 | .d (.one c) => (match P.underlying t with | some .bool | some (.int _) | some .string | some (.slice _) => elCk P n t (.one c) | _ => false)
 | _ => false
def topsCk (P : Program) (n : Nat) : List TypeId → List MT → Bool
 | [],[] => true
 | t :: ts,m :: ms => topCk P n t m && topsCk P n ts ms
 | _,_ => false
def wfM : (m : MT) → m.ty → Prop
 | .d t,x => t.wf x
 | _,_ => False
def wfU : (ms : List MT) → tysU ms → Prop
 | [],_ => True
 | m :: ms,x => wfM m x.1 ∧ wfU ms x.2
section
variable {H : Type} {enc : TypeId × Value → H} {P : Program} {φ : Nat → Nat} {w : World} {base : Nat} {sp : Nat → Bool}
theorem top_ok {n : Nat} {t : TypeId} {m : MT} (hc : topCk P n t m = true) {v : Value} {d : DataW H} {p : List MemPlace} {b0 : Nat} (hv : Value.okWide P w .any b0 t v) (h : DataW.Trod enc P w base sp true t v d p) :
 ∃ x : m.ty,ArgRep φ w (fun b => b < w.heap.size) v (m.enc 0 x) [] ∧ wfM m x := by
 obtain ⟨fuel,h⟩ := h
 cases m with
 | d E =>
   cases E with
   | agg us =>
     simp only [topCk] at hc
     split at hc
     ·rename_i fs hu
      obtain ⟨_,_,_,y,hy,hw⟩ := (read_ok (φ := φ) n).2.2 t (.agg us) fuel _ _ hc h
      simp only [Value.okWide,hu] at hv
      obtain ⟨cs,rfl,_,_⟩ := hv
      refine ⟨y,.data _ _ ?_,hw⟩
      rw [MT.enc,MT.v,ET.v_a]
      have := Rep.agg (φ := φ) (w := w) (ok := fun b => b < w.heap.size) cs.toList _ hy
      simpa [Value.cells,ET.enc,A.cells] using this
     ·cases hc
   | one c =>
     simp only [topCk] at hc
     have hna : ∃ u,P.underlying t = some u ∧ (u = .bool ∨ (∃ k,u = .int k) ∨ u = .string ∨ ∃ e,u = .slice e) ∧ elCk P n t (.one c) = true := by
      split at hc <;> first
       | (rename_i hu; exact ⟨_,hu,by simp,hc⟩)
       | cases hc
     obtain ⟨u,hu,hk,hc⟩ := hna
     obtain ⟨_,_,_,y,hy,hw⟩ := (read_ok (φ := φ) n).2.2 t (.one c) fuel _ _ hc h
     have hcell : v.cells = #[v] := by
      rcases hk with rfl | ⟨k,rfl⟩ | rfl | ⟨e,rfl⟩ <;>
       (simp only [Value.okWide,hu,Cell.okWide,Cell.ok] at hv
        cases v <;> first | rfl | (simp at hv))
     rw [hcell] at hy
     refine ⟨y,.data _ _ ?_,hw⟩
     rw [MT.enc,MT.v,ET.v_a]
     have hy' : Reps φ w (fun b => b < w.heap.size) [v] [c.enc y] := by
      have e : (ET.enc (.one c) y).cells = [c.enc y] := CT.enc_cells c y
      rw [e] at hy
      exact hy
     cases hy' with
     | cons _ _ _ _ h1 _ => exact h1
 | _ => simp [topCk] at hc
theorem tops_ok {n : Nat} : ∀ {ts : List TypeId} {ms : List MT} {vs : List Value} {ds : List (DataW H)} {p : List MemPlace} {j b0 : Nat},topsCk P n ts ms = true →
 (∀ (i : Nat) t v,ts[i]? = some t → vs[i]? = some v → Value.okWide P w .any b0 t v) → DataW.TrodAll enc P w base sp true ts vs ds p →
 ∃ x : tysU ms,ArgReps φ w (fun b => b < w.heap.size) vs ((vsU j ms x).map V.a) [] ∧ wfU ms x ∧ ds.length = ts.length
 | [],[],vs,ds,p,j,b0,_,_,h => by
   obtain ⟨rfl,rfl,rfl⟩ := trodAll_nil h
   exact ⟨(),.nil,trivial,rfl⟩
 | [],_ :: _,_,_,_,_,_,hc,_,_ => by simp [topsCk] at hc
 | _ :: _,[],_,_,_,_,_,hc,_,_ => by simp [topsCk] at hc
 | t :: ts,m :: ms,vs,ds,p,j,b0,hc,hv,h => by
   simp only [topsCk,Bool.and_eq_true] at hc
   obtain ⟨v,vs',d,ds',p1,p2,rfl,rfl,rfl,h1,h2⟩ := trodAll_cons h
   obtain ⟨x,hx,hwx⟩ := top_ok (φ := φ) hc.1 (hv 0 t v rfl rfl) h1
   obtain ⟨y,hy,hwy,hl⟩ := tops_ok (j := j + 1) hc.2 (fun i t v ht hv' => hv (i + 1) t v (by simpa using ht) (by simpa using hv')) h2
   refine ⟨(x,y),?_,⟨hwx,hwy⟩,by simp [hl]⟩
   simp only [vsU,List.map_cons]
   have hx' : ArgRep φ w (fun b => b < w.heap.size) v (m.v j x).a [] := by
    have : (m.v j x).a = m.enc 0 x := by
     cases m <;> first | rfl | (simp [topCk] at hc)
    rw [this]; exact hx
   exact .cons _ _ [] _ _ [] hx' hy
theorem trodAll_stays {W W' : World} {sp' : Nat → Bool} (hl : laidOutB P = true) : ∀ {ts : List TypeId} {vs : List Value} {ds : List (DataW H)} {p : List MemPlace},
 (∀ t ∈ ts,P.readableRec t = true ∧ t < P.types.size) → DataW.TrodAll enc P W 0 (fun _ => true) true ts vs ds p → (∀ q ∈ p,W.sameAt W' q) → (∀ q ∈ p,sp' q.block = true) → DataW.TrodAll enc P W' 0 sp' true ts vs ds p
 | [],vs,ds,p,_,h,_,_ => by
   obtain ⟨rfl,rfl,rfl⟩ := trodAll_nil h
   exact trodAll_mk0
 | t :: ts,vs,ds,p,hr,h,hs,hsp => by
   obtain ⟨v,vs',d,ds',p1,p2,rfl,rfl,rfl,h1,h2⟩ := trodAll_cons h
   exact trodAll_cons_mk (Go.WideElems.Trod_stays hl (hr t (by simp)).1 (hr t (by simp)).2 h1 (fun q hq => hs q (List.mem_append_left _ hq)) (fun q hq => hsp q (List.mem_append_left _ hq)))
    (trodAll_stays hl (fun t ht => hr t (by simp [ht])) h2 (fun q hq => hs q (List.mem_append_right _ hq)) (fun q hq => hsp q (List.mem_append_right _ hq)))
theorem post_of_old {f : Func} {s : ChangeSpec} {apart fresh handsOn again : Bool} {W W' : World} {args : Array Value} {v : Value} {ds gs : List (DataW H)} {before pa pv : List MemPlace}
 (hW : DataW.Whole enc P f.params.toList s.vars apart W args.toList ds gs before)
 (hres : ∀ (b : Nat) (sp : Nat → Bool) (hd : Bool),DataW.TrodAll enc P W' b sp hd f.resultTypes.toList (v.resultList f.resultTypes.size) (s.fn H (ds ++ gs)).results [])
 (hargs : ∀ sp : Nat → Bool,(∀ p ∈ before,sp p.block = true) → DataW.TrodAll enc P W' 0 sp true f.params.toList args.toList (s.fn H (ds ++ gs)).args pa)
 (hvars : ∀ sp : Nat → Bool,(∀ p ∈ before,sp p.block = true) → DataW.TrodVars enc P W' sp s.vars (s.fn H (ds ++ gs)).vars pv)
 (hps : before = pa ++ pv) (hk : W.keptBut W' (· ∈ before)) (hfz : ∀ a : Addr,a.block < W.heap.size → W'.frozen? a = W.frozen? a)
 (hok : ∀ (j : Nat) (t : TypeId) (r : Value),f.resultTypes[j]? = some t → (v.resultList f.resultTypes.size)[j]? = some r → Value.okWide P W' .any 0 t r) :
 s.post enc P f apart fresh handsOn again W args v W' := by
 have hold : ∀ p ∈ before,(fun b => decide (b < W.heap.size)) p.block = true := fun p hp => by simpa using hW.lt p hp
 have hlt := fun p hp => hW.lt (p := p) hp
 refine ⟨ds,gs,before,[],pa,pv,hW,hres _ _ _,hargs _ hold,hvars _ hold,World.keptBut_mono (fun p hp => ⟨hp,?_⟩) hk,fun _ => ?_⟩
 ·rw [hps,List.mem_append] at hp
  exact Or.inr hp
 ·obtain ⟨_,_,_,_,_,hz,hn⟩ := hW
  refine ⟨hok,_,_,([] ++ pa) ++ pv,⟨[] ++ pa,pv,trodAll_append (hargs _ (fun _ _ => rfl)) (hres _ _ _),hvars _ (fun _ _ => rfl),rfl,?_,?_⟩,?_⟩
  ·intro b off hp
   have hp' : MemPlace.cell b off ∈ before := by rw [hps]; simpa using hp
   rw [hfz _ (hlt _ hp')]
   exact hz b off hp'
  ·intro ha
   have := hn ha
   rw [hps] at this
   simpa using this
  ·intro p hp _
   rw [hps]
   simpa using hp
theorem row_contract {g : Nat} {c : Callee} (hok : FOk P φ g c) {f : Func} {s : ChangeSpec} {tb : TypeId} {n : Nat} (hvars : s.vars = []) (hres : f.resultTypes = #[tb]) (htb : P.underlying tb = some .bool)
 (hps : topsCk P n f.params.toList c.ps = true) (hnt : noTok c.ps = true) (hlaw : ∀ x,wfU c.ps x → ∃ y,c.f x = some y ∧ resA c y = ([A.bool true],[]))
 (hlaid : laidOutB P = true) (hread : ∀ t ∈ f.params.toList,P.readableRec t = true ∧ t < P.types.size)
 (hspec : ∀ (H : Type) (ds : List (DataW H)),ds.length = f.params.toList.length → s.fn H ds = { results := [.lit (.bool true)],args := ds })
 (W : World) (b0 : Nat) (args : Array Value) (ds gs : List (DataW H)) (before : List MemPlace)
 (hval : ∀ (j : Nat) t v,f.params[j]? = some t → args[j]? = some v → Value.okWide P W .any b0 t v)
 (hW : DataW.Whole enc P f.params.toList s.vars false W args.toList ds gs before) (hgl : Glob P (fun b => b < W.heap.size) W) :
 Calls P (φ g) args W fun e W' => ∃ v,e = .returned v ∧ s.post enc P f false true false false W args v W' := by
 have hW' := hW
 obtain ⟨p,q,hA,hV,rfl,hfz,hnd⟩ := hW
 rw [hvars] at hV
 obtain ⟨rfl,rfl⟩ := trodVars_none hV
 obtain ⟨x,hx,hwx,hlen⟩ := tops_ok (φ := φ) (j := 0) hps (fun i t v ht hv => hval i t v (by rw [← Array.getElem?_toList]; exact ht) (by rw [← Array.getElem?_toList]; exact hv)) hA
 obtain ⟨y,hy,hr⟩ := hlaw x hwx
 have hcf : c.cf (encU c.ps x) = some ([A.bool true],[]) := by
  have hn : normU c.ps (encU c.ps x) = encU c.ps x := by
   have : ∀ (ms : List MT) (x : tysU ms) (j : Nat) (ts : List TypeId),topsCk P n ts ms = true → normU ms ((vsU j ms x).map V.a) = (vsU j ms x).map V.a := by
    intro ms
    induction ms with
    | nil => intro x j ts _; rfl
    | cons m ms ih =>
      intro x j ts hc
      cases ts with
      | nil => simp [topsCk] at hc
      | cons t ts =>
        simp only [topsCk,Bool.and_eq_true] at hc
        simp only [vsU,List.map_cons,normU,ih x.2 (j + 1) ts hc.2,List.cons.injEq,and_true]
        cases m with
        | d E => unfold MT.norm; split <;> first | rfl | (rename_i h _; cases h)
        | _ => simp [topCk] at hc
   exact this c.ps x 0 _ hps
  rw [Callee.cf_eq hnt hn,hy,Option.map_some,hr]
 have hcall := hok.2 _ _ _ hcf W (fun b => b < W.heap.size) args.toList [] hx List.nodup_nil (fun b hb => by cases hb) (fun b hb => hb) hgl
 rw [show args.toList.toArray = args from by simp] at hcall
 refine hcall.mono fun e W' hb => ?_
 obtain ⟨v,rfl,hb⟩ := hb
 obtain ⟨rvs,K',rb,ob,hv,_,_,hrr,_,_,_⟩ := hb.rest
 have hvb : v = .bool true := by
  cases hrr with
  | cons v0 _ _ vs _ _ h1 h2 =>
    cases h2
    cases h1 with
    | data _ h3 => cases h3; exact hv
 subst hvb
 refine ⟨_,rfl,?_⟩
 have hfr : ∀ b,b < W.heap.size → W'.heap[b]? = W.heap[b]? := fun b hb1 => hb.frame b hb1 (by simp)
 simp only [List.append_nil] at hW'
 have hsame : ∀ q ∈ p,W.sameAt W' q := fun q hq => by
  have hlt := DataW.TrodAll.lt hA q hq
  cases q with
  | cell b off => exact cell?_of_block (hfr b hlt) off
  | map b => exact hfr b hlt
 refine post_of_old (pa := p) (pv := []) hW' (fun b sp hd => ?_) (fun sp hsp => ?_) (fun sp _ => ?_) (by simp) ?_ (fun a ha => ?_) (ok_one hres rfl (okWide_bool_mk htb _))
 ·rw [List.append_nil,hspec H ds hlen,hres]
  exact trodAll_cons_mk (shut_bool htb _) trodAll_mk0
 ·rw [List.append_nil,hspec H ds hlen]
  exact trodAll_stays hlaid hread hA hsame hsp
 ·rw [List.append_nil,hspec H ds hlen,hvars]
  rfl
 ·refine ⟨hb.env.1,hb.env.2,fun i hi => ?_⟩
  have := hfr i hi
  rw [this]
  cases hh : W.heap[i]? with
  | none => trivial
  | some o =>
    cases o with
    | cells c t fr => exact ⟨rfl,rfl,rfl,fun j _ => rfl⟩
    | map es clock => exact .inr ⟨rfl,rfl⟩
    | _ => rfl
 ·cases a with
  | mk b o sp => exact hb.fr b o ha
end
end Go.Ab
namespace Go.Ab
theorem w64 {n : Int} (h1 : -9223372036854775808 ≤ n) (h2 : n < 9223372036854775808) : IntKind.i64.wrap n = n := by
 have e : IntKind.i64.wrap n = if decide (n % 18446744073709551616 ≥ 9223372036854775808) then n % 18446744073709551616 - 18446744073709551616 else n % 18446744073709551616 := rfl
 rw [e]
 split
 ·rename_i h; simp only [decide_eq_true_eq] at h; omega
 ·rename_i h; simp only [decide_eq_true_eq] at h; omega
theorem strMax_eq : strMax = 9223372036854775807 := rfl
end Go.Ab
