/- Rows that are drawn, into a source that is lent. Conditions: none. -/
import Derived.Test.YtkgfikfdiobnoaaGreatDoorLC
set_option linter.unusedVariables false
set_option linter.unusedSimpArgs false
namespace Go.Ab
open Go.RowKit
structure Fq (S : Nat) (v : Value) (w w' : World) : Prop where
 size : w.heap.size ≤ w'.heap.size
 block : ∀ c,c < S → (∀ o,v ≠ .pointer (some ⟨c,o,none⟩)) → w'.heap[c]? = w.heap[c]?
 os : w'.os = w.os
 output : w'.output = w.output
 frz : ∀ b off,b < S → w'.frozen? ⟨b,off,none⟩ = w.frozen? ⟨b,off,none⟩
 room : ∀ {z : Nat} b n,b < S → Room z w b n → Room z w' b n
theorem Fq.refl (S : Nat) (v : Value) (w : World) : Fq S v w w := ⟨Nat.le_refl _,fun _ _ _ => rfl,rfl,rfl,fun _ _ _ => rfl,fun _ _ _ h => h⟩
theorem Fq.trans {S : Nat} {v : Value} {w w1 w2 : World} (h : Fq S v w w1) (h' : Fq S v w1 w2) : Fq S v w w2 :=
 ⟨Nat.le_trans h.size h'.size,fun c hc hn => (h'.block c hc hn).trans (h.block c hc hn),h'.os.trans h.os,h'.output.trans h.output,fun b o hb => (h'.frz b o hb).trans (h.frz b o hb),fun b n hb hr => h'.room b n hb (h.room b n hb hr)⟩
theorem Fq.of_lo {S : Nat} {v : Value} {w w' : World} (h : Lo S w w') : Fq S v w w' := ⟨h.size,fun c hc _ => h.block c hc,h.os,h.output,fun b off hb => frozen?_block (h.block b hb) off,fun b n hb hr => hr.of_block (h.block b hb)⟩
theorem Fq.alloc {S : Nat} {v : Value} {w w1 : World} (h : Fq S v w w1) (hS : S ≤ w1.heap.size) (o : Obj) : Fq S v w (w1.alloc o) := h.trans (.of_lo ((Lo.refl S w1).alloc hS o))
theorem Fq.drew {S : Nat} {v : Value} {w w1 : World} (h : Fq S v w w1) : Fq S v w w1.drew := h.trans (.of_lo (Lo.drew (Lo.refl S w1)))
theorem Fq.setCell {S : Nat} {v : Value} {w w1 : World} (h : Fq S v w w1) {b j : Nat} {u : Value} (hb : S ≤ b) : Fq S v w (w1.setCell ⟨b,j,none⟩ u) := h.trans (.of_lo ((Lo.refl S w1).setCell hb))
def MstK (P : Program) (φ : Nat → Nat) (S : Nat) (e eI : TypeId) (K : Nat → Prop) (x : srcE.ty) (v3 : Value) (xs : List (List Int)) (vout : Value) (acc : List Int) (vrow : Value) (w : World) : Prop :=
 ∃ (O : Nat → Prop) (B : Nat) (obr : Option Nat),BoxRep φ w K v3 3 (srcE.enc x) [B] ∧ NestP φ e xs vout O w ∧ VOwn w eI vrow (acc.map (Value.int .i64)) obr ∧
   (∀ b,obr = some b → ¬ O b ∧ S ≤ b ∧ b < w.heap.size ∧ ¬ K b ∧ b ≠ B) ∧ (∀ b,O b → S ≤ b ∧ b < w.heap.size ∧ ¬ K b ∧ b ≠ B) ∧ (∀ b,K b → b < w.heap.size ∧ b ≠ B) ∧ Glob P K w ∧ S ≤ w.heap.size ∧ B < w.heap.size
def Wid (K0 K : Nat → Prop) (S : Nat) (w : World) : Prop := (∀ b,K0 b → K b) ∧ ∀ b,K b → K0 b ∨ (S ≤ b ∧ b < w.heap.size)
theorem Wid.size {K0 K : Nat → Prop} {S : Nat} {w w' : World} (h : Wid K0 K S w) (hz : w.heap.size ≤ w'.heap.size) : Wid K0 K S w' :=
 ⟨h.1,fun b hb => (h.2 b hb).imp id fun h => ⟨h.1,Nat.lt_of_lt_of_le h.2 hz⟩⟩
def Mst (P : Program) (φ : Nat → Nat) (S : Nat) (e eI : TypeId) (K0 : Nat → Prop) (x : srcE.ty) (v3 : Value) (xs : List (List Int)) (vout : Value) (acc : List Int) (vrow : Value) (w : World) : Prop :=
 ∃ K,Wid K0 K S w ∧ MstK P φ S e eI K x v3 xs vout acc vrow w
section
variable {P : Program} {φ : Nat → Nat} {S : Nat} {e eI : TypeId} {K K0 : Nat → Prop} {x : srcE.ty} {v3 : Value} {xs : List (List Int)} {vout : Value} {acc : List Int} {vrow : Value} {w : World}
theorem MstK.keep {w' : World} (h : MstK P φ S e eI K x v3 xs vout acc vrow w) (hw : Lo w.heap.size w w') : MstK P φ S e eI K x v3 xs vout acc vrow w' := by
 obtain ⟨O,B,obr,h1,h2,h3,h4,h5,h6,h7,h8,h9⟩ := h
 have hs := hw.size
 refine ⟨O,B,obr,h1.keepW (fun b hb => hw.block b (h6 b hb).1) (fun b hb => ?_),h2.keep fun c hc => hw.block c (h5 c hc).2.1,h3.keep fun b hb => hw.block b (h4 b hb).2.2.1,fun b hb => ?_,fun b hb => ?_,fun b hb => ?_,h7.on (fun _ h => h) fun b hb => hw.block b (h6 b hb).1,by omega,by omega⟩
 ·rw [List.mem_singleton] at hb; subst hb; exact hw.block _ h9
 ·obtain ⟨a1,a2,a3,a4⟩ := h4 b hb; exact ⟨a1,a2,by omega,a4⟩
 ·obtain ⟨a2,a3,a4⟩ := h5 b hb; exact ⟨a2,by omega,a4⟩
 ·obtain ⟨a3,a4⟩ := h6 b hb; exact ⟨by omega,a4⟩
theorem Mst.keep {w' : World} (h : Mst P φ S e eI K0 x v3 xs vout acc vrow w) (hw : Lo w.heap.size w w') : Mst P φ S e eI K0 x v3 xs vout acc vrow w' := by
 obtain ⟨K,hK0,h⟩ := h; exact ⟨K,hK0.size hw.size,h.keep hw⟩
theorem Mst.row (h : Mst P φ S e eI K0 x v3 xs vout acc vrow w) (ad : Option Addr) : Mst P φ S e eI K0 x v3 xs vout [] (.slice ad 0 0) w := by
 obtain ⟨K,hK0,O,B,obr,h1,h2,h3,h4,h5⟩ := h
 exact ⟨K,hK0,O,B,none,h1,h2,.empty ad,fun b hb => (by cases hb),h5⟩
theorem Mst.out (h : Mst P φ S e eI K0 x v3 xs vout acc vrow w) (ad : Option Addr) : Mst P φ S e eI K0 x v3 [] (.slice ad 0 0) acc vrow w := by
 obtain ⟨K,hK0,O,B,obr,h1,h2,h3,h4,h5,h6⟩ := h
 exact ⟨K,hK0,fun _ => False,B,obr,h1,.nil e ad w,h3,fun b hb => ⟨fun h => h,(h4 b hb).2⟩,fun b hb => hb.elim,h6⟩
theorem Mst.lit (h : Mst P φ S e eI K0 x v3 xs vout acc vrow w) (C : Array Value) (t : TypeId) : ∃ K : Nat → Prop,K w.heap.size ∧ Wid K0 K S (w.alloc (.cells C t)) ∧ MstK P φ S e eI K x v3 xs vout acc vrow (w.alloc (.cells C t)) := by
 obtain ⟨K,hK0,h⟩ := h
 obtain ⟨O0,B0,obr0,g1,g2,g3,g4,g5,g6,g7,g8,g9⟩ := h
 have hz : (w.alloc (.cells C t)).heap.size = w.heap.size + 1 := by simp
 refine ⟨fun b => K b ∨ b = w.heap.size,.inr rfl,⟨fun b hb => .inl (hK0.1 b hb),fun b hb => hb.elim (fun hb => ((hK0.size (w' := w.alloc (.cells C t)) (by omega)).2 b hb)) fun hb => .inr ⟨by omega,by omega⟩⟩,O0,B0,obr0,?_,g2.keep fun c hc => Zaj _ _ (g5 c hc).2.1,g3.keep fun b hb => Zaj _ _ (g4 b hb).2.2.1,fun b hb => ?_,fun b hb => ?_,fun b hb => ?_,?_,by omega,by omega⟩
 ·have := g1.keepW (w' := w.alloc (.cells C t)) (fun b hb => Zaj _ _ (g6 b hb).1) fun b hb => by
   rw [List.mem_singleton] at hb; subst hb; exact Zaj _ _ g9
  exact this.mono fun b hb => .inl hb
 ·obtain ⟨a1,a2,a3,a4,a5⟩ := g4 b hb
  exact ⟨a1,a2,by omega,fun hk => hk.elim a4 (fun e => by omega),a5⟩
 ·obtain ⟨a2,a3,a4,a5⟩ := g5 b hb
  exact ⟨a2,by omega,fun hk => hk.elim a4 (fun e => by omega),a5⟩
 ·rcases hb with hb | rfl
  ·obtain ⟨a3,a4⟩ := g6 b hb; exact ⟨by omega,a4⟩
  ·exact ⟨by omega,by omega⟩
 ·exact g7.on (fun b hb => .inl hb) fun b hb => Zaj _ _ (g6 b hb).1
theorem MstK.call {g : Nat} {a : A} {u : Value} {y : Int} {x' : srcE.ty} (h : MstK P φ S e eI K x v3 xs vout acc vrow w) (hK0 : Wid K0 K S w) (hu : Rep φ w K u a) (hc : CallOk P φ g [.iob 3 [srcE.enc x],a] [.int .i64 y] [.iob 3 [srcE.enc x']]) (ha : (∀ z xs,a ≠ .iob z xs) ∧ ∀ z xs,a ≠ .ios z xs) :
 Calls P (φ g) #[v3,u] w fun r w' => (r = .returned (.int .i64 y) ∧ w.heap.size ≤ w'.heap.size ∧ Fq S v3 w w' ∧ Mst P φ S e eI K0 x' v3 xs vout acc vrow w') ∧ ∀ c,c < w.heap.size → (∀ o,v3 ≠ .pointer (some ⟨c,o,none⟩)) → w'.heap[c]? = w.heap[c]? := by
 obtain ⟨O,B,obr,h1,h2,h3,h4,h5,h6,h7,h8,h9⟩ := h
 have hvB : ∃ o,v3 = .pointer (some ⟨B,o,none⟩) := by
  cases h1 with
  | mk _ o _ _ vs _ _ _ _ => exact ⟨o,rfl⟩
 have hargs : ArgReps φ w K [v3,u] [.iob 3 [srcE.enc x],a] ([B] ++ ([] ++ [])) := .cons _ _ _ _ _ _ (.iob _ _ _ _ h1) (.cons _ _ _ _ _ _ (.data _ _ hu) .nil)
 refine (hc w K [v3,u] [B] hargs (by simp) (fun b hb => by rw [List.mem_singleton] at hb; subst hb; exact fun hk => (h6 _ hk).2 rfl) (fun b hb => (h6 b hb).1) h7).mono fun r w' ⟨v,he,hb⟩ => ?_
 subst he
 obtain ⟨rvs,K',rb,ob,hv,k1,k2,hrr,ho,hnd,hbl⟩ := hb.rest
 have hfr : ∀ c,c < w.heap.size → c ≠ B → w'.heap[c]? = w.heap[c]? := fun c hc hn => hb.frame c hc (by simpa using hn)
 have hK' : ∀ b,K' b → K b ∨ b = B ∨ (w.heap.size ≤ b ∧ b < w'.heap.size) := fun b hb' => by
  rcases k2 b hb' with h | h | h
  ·exact .inl h
  ·exact .inr (.inl (by simpa using h))
  ·exact .inr (.inr h)
 have hg := hb.grow
 cases hrr with
 | cons v0 _ b0 vs0 _ bs0 r1 r2 =>
 cases r2
 cases r1 with
 | data _ r3 =>
 cases r3
 refine ⟨⟨by rw [hv]; rfl,hg,⟨hg,fun c hc hn => hfr c (by omega) (fun e => by
  obtain ⟨o,ho'⟩ := hvB
  exact hn o (by rw [ho',e])),hb.env.1,hb.env.2,fun b off hb' => hb.fr b off (by omega),fun b n hb' hr => hb.room b n hr⟩,?_⟩,fun c hc hn => hfr c hc fun e => by
  obtain ⟨o,ho'⟩ := hvB
  exact hn o (by rw [ho',e])⟩
 cases ho with
 | data _ _ _ _ _ _ hne _ => exact absurd rfl (hne.1 _ _)
 | iob _ _ _ _ bq _ _ _ bs1 hq ht =>
   have hbq : ∃ bs,bq = B :: bs := by
    cases h1 with
    | mk _ o _ _ vs _ _ _ _ =>
      generalize hpv : Value.pointer (some ⟨B,o,none⟩) = pv at hq
      cases hq with
      | mk b2 o2 _ _ vs2 bs2 _ _ _ _ => cases hpv; exact ⟨_,rfl⟩
   obtain ⟨bs2,rfl⟩ := hbq
   have hbs2 : bs2 = [] := by
    have key : ∀ {vs : List Value} {as : List A} {bs : List Nat},Zad φ w' K' vs as bs → (∀ z xs,A.own z xs ∉ as) → bs = [] := by
     intro vs as bs hcr
     induction hcr with
     | nil => intro _; rfl
     | cons v a b vs as bs h t ih =>
       intro hn
       rw [ih fun z xs hm => hn z xs (List.mem_cons_of_mem _ hm)]
       cases h with
       | data => rfl
       | own z xs b h => exact absurd (List.mem_cons_self ..) (hn z xs)
    generalize hpv : v3 = pv at hq
    generalize hbb : B :: bs2 = bb at hq
    generalize hxx : srcE.enc x' = xx at hq
    cases hq with
    | mk b o z xx vs bs h hv hr hz =>
      cases hbb
      refine key h fun z xs hm => ?_
      obtain ⟨x1,x2,x3,⟨⟩⟩ := x'
      rw [← hxx] at hm
      simp [ET.enc,CTs.enc,CT.enc,A.cells] at hm
   subst hbs2
   have hnK : ¬ K' B := (hbl B (by simp)).1
   have hd : ∀ b,b < w.heap.size → ¬ K b → b ≠ B → ¬ K' b := fun b h1 h2 h3 h4 => by
    rcases hK' b h4 with h | h | h
    ·exact h2 h
    ·exact h3 h
    ·omega
   have hG' : Glob P K' w' := h7.on k1 fun b hb => hfr b (h6 b hb).1 (h6 b hb).2
   refine ⟨K',⟨fun b hb => k1 b (hK0.1 b hb),fun b hb => ?_⟩,O,B,obr,hq,h2.keep fun c hc => hfr c (h5 c hc).2.1 (h5 c hc).2.2.2,h3.keep fun b hb => hfr b (h4 b hb).2.2.1 (h4 b hb).2.2.2.2,fun b hb => ?_,fun b hb => ?_,fun b hb => ?_,hG',by omega,by omega⟩
   ·rcases hK' b hb with h | h | h
    ·exact (hK0.2 b h).imp id fun h => ⟨h.1,by omega⟩
    ·exact absurd (h ▸ hb) hnK
    ·exact .inr ⟨by omega,h.2⟩
   ·obtain ⟨a1,a2,a3,a4,a5⟩ := h4 b hb
    exact ⟨a1,a2,by omega,hd b a3 a4 a5,a5⟩
   ·obtain ⟨a2,a3,a4,a5⟩ := h5 b hb
    exact ⟨a2,by omega,hd b a3 a4 a5,a5⟩
   ·refine ⟨?_,fun e => hnK (by rw [← e]; exact hb)⟩
    rcases hK' b hb with h | h | h
    ·have := (h6 b h).1; omega
    ·omega
    ·exact h.2
theorem Mst.call {g : Nat} {n y : Int} {x' : srcE.ty} (h : Mst P φ S e eI K0 x v3 xs vout acc vrow w) (hc : CallOk P φ g [.iob 3 [srcE.enc x],.int .i64 n] [.int .i64 y] [.iob 3 [srcE.enc x']]) :
 Calls P (φ g) #[v3,.int .i64 n] w fun r w' => r = .returned (.int .i64 y) ∧ w.heap.size ≤ w'.heap.size ∧ Fq S v3 w w' ∧ Mst P φ S e eI K0 x' v3 xs vout acc vrow w' := by
 obtain ⟨K,hK0,h⟩ := h
 exact (h.call hK0 (.int _ _) hc ⟨fun _ _ h => (by cases h),fun _ _ h => (by cases h)⟩).mono fun _ _ h => h.1
theorem Mst.among {g : Nat} {ns : List Int} {y : Int} {x' : srcE.ty} {t : TypeId} (h : Mst P φ S e eI K0 x v3 xs vout acc vrow w) (hc : CallOk P φ g [.iob 3 [srcE.enc x],.sl 1 (ns.map i64E.enc)] [.int .i64 y] [.iob 3 [srcE.enc x']]) (cp : Nat) (hcp : ns.length ≤ cp) :
 Calls P (φ g) #[v3,.slice (some ⟨w.heap.size,0,none⟩) ns.length cp] (w.alloc (.cells (ns.map (Value.int .i64)).toArray t)) fun r w' => r = .returned (.int .i64 y) ∧ w.heap.size ≤ w'.heap.size ∧ Fq S v3 w w' ∧ Mst P φ S e eI K0 x' v3 xs vout acc vrow w' ∧ ∀ c,c < w.heap.size → (∀ o,v3 ≠ .pointer (some ⟨c,o,none⟩)) → w'.heap[c]? = w.heap[c]? := by
 have hS : S ≤ w.heap.size := by
  obtain ⟨_,_,O,B,obr,h1,h2,h3,h4,h5,h6,h7,h8,h9⟩ := h
  exact h8
 obtain ⟨K,hk,hK0,h⟩ := h.lit (ns.map (Value.int .i64)).toArray t
 have key : ∀ ys : List Int,Reps φ (w.alloc (.cells (ns.map (Value.int .i64)).toArray t)) K (ys.map (Value.int .i64)) ((ys.map i64E.enc).flatMap A.cells) := by
  intro ys
  induction ys with
  | nil => exact .nil
  | cons y ys ih => exact .cons _ _ _ _ (.int _ _) ih
 have hr := Rep.sl (φ := φ) (w := w.alloc (.cells (ns.map (Value.int .i64)).toArray t)) (ok := K) w.heap.size 0 cp 1 (ns.map i64E.enc) (ns.map (Value.int .i64)) hk (fun x hx => by
  obtain ⟨y,_,rfl⟩ := List.mem_map.1 hx; rfl) (by rw [List.length_map]; exact hcp) (key ns) (fun j u hj => by
   have := Ze6 w (.cells (ns.map (Value.int .i64)).toArray t) rfl
   simp only [World.cell?,this,Nat.zero_add]
   rw [List.getElem?_toArray]; exact hj)
 rw [List.length_map] at hr
 refine (h.call hK0 hr hc ⟨fun _ _ h => (by cases h),fun _ _ h => (by cases h)⟩).mono fun r w' hq => ?_
 obtain ⟨⟨q1,q2,q3,q4⟩,q5⟩ := hq
 have hz : (w.alloc (.cells (ns.map (Value.int .i64)).toArray t)).heap.size = w.heap.size + 1 := by simp
 exact ⟨q1,by omega,((Fq.refl S v3 w).alloc hS _).trans q3,q4,fun c hc hn => (q5 c (by omega) hn).trans (Zaj _ _ hc)⟩
theorem Mst.slice (h : Mst P φ S e eI K0 x v3 xs vout acc vrow w) : ∃ ad cp,vout = .slice ad xs.length cp := by
 obtain ⟨K,hK0,O,B,obr,h1,h2,_⟩ := h
 exact h2.slice
theorem Mst.first {y : Int} {ys : List Int} {rt : List (List Int)} (h : Mst P φ S e eI K0 x v3 ((y :: ys) :: rt) vout acc vrow w) :
 ∃ b cap b0 o0 c0,vout = .slice (some ⟨b,0,none⟩) (rt.length + 1) cap ∧ w.cell? ⟨b,0,none⟩ = some (.slice (some ⟨b0,o0,none⟩) (ys.length + 1) c0) ∧ (∃ u,w.cell? ⟨b0,o0,none⟩ = some u) ∧ w.frozen? ⟨b0,o0,none⟩ = false ∧ S ≤ b0 ∧
   ∀ n,Mst P φ S e eI K0 x v3 ((n :: ys) :: rt) vout acc vrow (w.setCell ⟨b0,o0,none⟩ (.int .i64 n)) := by
 obtain ⟨K,hK0,O,B,obr,h1,h2,h3,h4,h5,h6,h7,h8,h9⟩ := h
 obtain ⟨b,cap,b0,o0,c0,g1,g2,g3,g4,g5,_,g7⟩ := h2.first
 have hb0 := h5 b0 g5
 refine ⟨b,cap,b0,o0,c0,g1,g2,g3,g4,hb0.1,fun n => ?_⟩
 have hbk : ∀ q,q ≠ b0 → (w.setCell ⟨b0,o0,none⟩ (.int .i64 n)).heap[q]? = w.heap[q]? := fun q hq => Zan _ _ _ _ _ hq
 refine ⟨K,hK0.size (by rw [Zaf]; exact Nat.le_refl _),O,B,obr,?_,g7 n,h3.keep fun q hq => hbk q fun e => (h4 q hq).1 (e ▸ g5),fun q hq => by rw [Zaf]; exact h4 q hq,fun q hq => by rw [Zaf]; exact h5 q hq,fun q hq => by rw [Zaf]; exact h6 q hq,
  h7.on (fun _ h => h) fun q hq => hbk q fun e => hb0.2.2.1 (e ▸ hq),by rw [Zaf]; exact h8,by rw [Zaf]; exact h9⟩
 refine h1.keepW (fun q hq => hbk q fun e => hb0.2.2.1 (e ▸ hq)) fun q hq => ?_
 rw [List.mem_singleton] at hq; subst hq
 exact hbk _ fun e => hb0.2.2.2 e.symm
theorem Mst.fin (h : Mst P φ S e eI K0 x v3 xs vout acc vrow w) : Rep φ w (fun b => S ≤ b ∧ b < w.heap.size) vout (.sl 1 (xs.map rowE2.enc)) := by
 obtain ⟨K,hK0,O,B,obr,h1,h2,h3,h4,h5,_⟩ := h
 exact h2.data fun b hb => ⟨(h5 b hb).1,(h5 b hb).2.1⟩
end
def mRow (pk : srcE.ty → Int → Option (Int × srcE.ty)) : Nat → srcE.ty → List Int → Option (srcE.ty × List Int)
 | 0,x,acc => some (x,acc)
 | n + 1,x,acc => (pk x 20).bind fun p => if 0 ≤ p.1 ∧ p.1 ≤ 1000 then mRow pk n p.2 (acc ++ [20 + p.1]) else none
def mRows (pk : srcE.ty → Int → Option (Int × srcE.ty)) (c : Nat) : Nat → srcE.ty → List (List Int) → Option (srcE.ty × List (List Int))
 | 0,x,out => some (x,out)
 | n + 1,x,out => (mRow pk c x []).bind fun q => mRows pk c n q.1 (out ++ [q.2])
def mOkF (pk : srcE.ty → Int → Option (Int × srcE.ty)) (x0 : srcE.ty) : Option (srcE.ty × List (List Int)) :=
 (pk x0 5).bind fun a => if 0 ≤ a.1 ∧ a.1 ≤ 1000 then (pk a.2 5).bind fun b => if 0 ≤ b.1 ∧ b.1 ≤ 1000 then mRows pk (b.1.toNat + 1) (a.1.toNat + 1) b.2 [] else none else none
def mDrawF (pk : srcE.ty → Int → Option (Int × srcE.ty)) (am : srcE.ty → List Int → Option (Int × srcE.ty)) (x0 : srcE.ty) : Option (srcE.ty × List (List Int)) :=
 (mOkF pk x0).bind fun r => if r.2.length ≤ 1001 then (pk r.1 20).bind fun c =>
   if c.1 = 0 then (match r.2 with | (_ :: ys) :: rt => (am c.2 [0,1,200,201]).bind fun q => some (q.2,(q.1 :: ys) :: rt) | _ => none)
   else if c.1 = 1 then some (c.2,r.2 ++ [[5]])
   else if c.1 = 2 then (am c.2 [0,10,11]).bind fun q => if 0 ≤ q.1 ∧ q.1 ≤ 1000 then some (q.2,List.replicate q.1.toNat [3,4]) else none
   else some (c.2,r.2) else none
structure Z6l (P : Program) (fn np na : Nat) (e eI : TypeId) : Prop where
 en : Entered P fn
 run : ∀ (φ : Nat → Nat) (gp ga : Nat) (pk : srcE.ty → Int → Option (Int × srcE.ty)) (am : srcE.ty → List Int → Option (Int × srcE.ty)),φ gp = np → φ ga = na →
  (∀ x n y x',pk x n = some (y,x') → CallOk P φ gp [.iob 3 [srcE.enc x],.int .i64 n] [.int .i64 y] [.iob 3 [srcE.enc x']]) →
  (∀ x ns y x',am x ns = some (y,x') → CallOk P φ ga [.iob 3 [srcE.enc x],.sl 1 (ns.map i64E.enc)] [.int .i64 y] [.iob 3 [srcE.enc x']]) →
  ∀ (x0 x1 : srcE.ty) (ys : List (List Int)),mDrawF pk am x0 = some (x1,ys) →
  ∀ (S : Nat) (K : Nat → Prop) (v : Value) (w : World),Mst P φ S e eI K x0 v [] (.slice none 0 0) [] (.slice none 0 0) w →
  Calls P fn #[v] w fun r w' => ∃ ad n cp,r = .returned (.slice ad n cp) ∧ Fq S v w w' ∧ Mst P φ S e eI K x1 v ys (.slice ad n cp) [] (.slice none 0 0) w'
section
variable {P : Program} {φ : Nat → Nat}
end
section
variable {P : Program} {φ : Nat → Nat}
theorem Zza {w : World} {K : Nat → Prop} {ys : List Int} : ∀ {vs : List Value},Reps φ w K vs ((ys.map i64E.enc).flatMap A.cells) → vs = ys.map (Value.int .i64) := by
 induction ys with
 | nil => intro vs h; cases h; rfl
 | cons y ys ih =>
   intro vs h
   have h' : Reps φ w K vs (.int .i64 y :: (ys.map i64E.enc).flatMap A.cells) := h
   cases h' with
   | cons v a vs as h t =>
     cases h
     rw [ih t]; rfl
theorem Zps {w : World} {K : Nat → Prop} : ∀ ys : List Int,Reps φ w K (ys.map (Value.int .i64)) ((ys.map i64E.enc).flatMap A.cells)
 | [] => .nil
 | y :: ys => .cons _ _ _ _ (.int _ _) (Zps ys)
theorem Z4q {w : World} {K : Nat → Prop} {xs : List (List Int)} : ∀ {vs : List Value},Reps φ w K vs ((xs.map rowE2.enc).flatMap A.cells) → vs.length = xs.length ∧ ∀ (i : Nat) (row : List Int),xs[i]? = some row → ∃ ad n cp,vs[i]? = some (.slice ad n cp) ∧ Rep φ w K (.slice ad n cp) (.sl 1 (row.map i64E.enc)) := by
 induction xs with
 | nil => intro vs h; cases h; exact ⟨rfl,fun i row h => by simp at h⟩
 | cons x xs ih =>
   intro vs h
   have h' : Reps φ w K vs (.sl 1 (x.map i64E.enc) :: (xs.map rowE2.enc).flatMap A.cells) := h
   cases h' with
   | cons v a vs as h t =>
     obtain ⟨i1,i2⟩ := ih t
     refine ⟨by simp [i1],fun i row hi => ?_⟩
     cases i with
     | zero =>
       cases hi
       have hs : ∃ ad n c,v = .slice ad n c := by
        generalize hz : x.map i64E.enc = zs at h
        cases h with
        | slE ad c z => exact ⟨_,_,_,rfl⟩
        | sl => exact ⟨_,_,_,rfl⟩
       obtain ⟨ad,n,c,rfl⟩ := hs
       exact ⟨ad,n,c,rfl,h⟩
     | succ i => exact i2 i row hi
theorem Z1i {w : World} {K : Nat → Prop} {v : Value} {xs : List (List Int)} (h : Rep φ w K v (.sl 1 (xs.map rowE2.enc))) :
 (∃ ad cp,v = .slice ad xs.length cp) ∧ ∀ (i : Nat) (row : List Int),xs[i]? = some row → ∃ b o cap ad n cp,v = .slice (some ⟨b,o,none⟩) xs.length cap ∧ w.cell? ⟨b,o + i,none⟩ = some (.slice ad n cp) ∧ K b ∧ Rep φ w K (.slice ad n cp) (.sl 1 (row.map i64E.enc)) := by
 generalize hy : xs.map rowE2.enc = ys at h
 cases h with
 | slE ad c z =>
   obtain rfl : xs = [] := by cases xs with | nil => rfl | cons => simp at hy
   exact ⟨⟨_,_,rfl⟩,fun i row h => by simp at h⟩
 | sl b o cap z _ vs hb hz hc hr hv =>
   subst hy
   obtain ⟨i1,i2⟩ := Z4q hr
   refine ⟨⟨_,_,by rw [List.length_map]⟩,fun i row hi => ?_⟩
   obtain ⟨ad,n,cp,h1,h2⟩ := i2 i row hi
   exact ⟨b,o,cap,ad,n,cp,by rw [List.length_map],hv i _ h1,hb,h2⟩
theorem NestP.pushR {e : TypeId} {xs : List (List Int)} {v : Value} {O : Nat → Prop} {w : World} (h : NestP φ e xs v O w) {acc : List Int} {a : Option Addr} {n cp : Nat} {obr : Option Nat} (hr : OwnRep φ w (fun _ => False) (.slice a n cp) 1 (acc.map i64E.enc) obr) (hlt : ∀ b,obr = some b → b < w.heap.size)
 (hd : ∀ b,obr = some b → ¬ O b) (hO : ∀ b,O b → b < w.heap.size) {t : TypeId} (ht : P.underlying t = some (.slice e)) {i : TypeInfo} (hi : P.info? e = some i) (hz : i.size = 1) {zv : Value} (hzv : i.zero = some zv) (hzs : zv.cells.size = 1)
 (hb : i.bytes ≤ 128) (hlim : xs.length + 1 < 1099511627776) {bu : Nat} {D : Array Value} {tu : TypeId} (hu : w.heap[bu]? = some (.cells D tu)) (hx : D[0]? = some (.slice a n cp)) (c : Nat) (ty : TypeId) :
 ∃ ad n' cp' w',(Builtin.append_ #[t,t] ty #[v,.slice (some ⟨bu,0,none⟩) 1 c]).run P w = .ok (.slice ad n' cp') w' ∧ w.heap.size ≤ w'.heap.size ∧ w'.os = w.os ∧ w'.output = w.output ∧
   (∀ q,q < w.heap.size → ¬ O q → w'.heap[q]? = w.heap[q]?) ∧ NestP φ e (xs ++ [acc]) (.slice ad n' cp') (fun b => O b ∨ obr = some b ∨ (w.heap.size ≤ b ∧ b < w'.heap.size)) w' := by
 obtain ⟨vs,ob,rb,h1,h2,h3,h4,h5⟩ := h
 obtain ⟨ad,n',cp',w',ob',e1,e2,e3,e4,e5,e6,e7⟩ := h1.app ht hi hz hzv hzs hb (by rw [h2]; exact hlim) hu hx rfl c ty
 have hne : ∀ q,q < w.heap.size → ¬ O q → w'.heap[q]? = w.heap[q]? := fun q hq hn => e4 q hq fun e => hn (h3 q e)
 have hkeep : ∀ b,obr = some b → w'.heap[b]? = w.heap[b]? := fun b hb => hne b (hlt b hb) (hd b hb)
 refine ⟨ad,n',cp',w',e1,e3,e6,e7,hne,vs ++ [.slice a n cp],ob',fun j => if j = xs.length then obr else rb j,e2,by simp [h2],fun b hb => ?_,fun j hj => ?_,fun i j b hij hj hb1 hb2 => ?_⟩
 ·rcases e5 with rfl | ⟨q,rfl,q1,q2⟩
  ·exact .inl (h3 b hb)
  ·cases hb; exact .inr (.inr ⟨q1,q2⟩)
 ·rw [List.length_append,List.length_singleton] at hj
  rcases Nat.lt_or_ge j xs.length with hjl | hjl
  ·obtain ⟨⟨ad0,n0,cp0,a1,a2⟩,a3⟩ := h4 j hjl
   have hnj : j ≠ xs.length := by omega
   simp only [hnj,if_false]
   have hrow : rowAt (xs ++ [acc]) j = rowAt xs j := by simp [rowAt,List.getElem?_append_left hjl]
   rw [hrow]
   refine ⟨⟨ad0,n0,cp0,by rw [List.getElem?_append_left (by omega)]; exact a1,a2.keepF fun b hb => e4 b (hO b (a3 b hb).1) (a3 b hb).2⟩,fun b hb => ⟨.inl (a3 b hb).1,fun e => ?_⟩⟩
   rcases e5 with rfl | ⟨q,rfl,q1,q2⟩
   ·exact (a3 b hb).2 e
   ·cases e; have := hO _ (a3 _ hb).1; omega
  ·obtain rfl : j = xs.length := by omega
   simp only [if_true]
   have hrow : rowAt (xs ++ [acc]) xs.length = acc := by simp [rowAt]
   rw [hrow]
   refine ⟨⟨a,n,cp,by rw [← h2]; simp,hr.keepF hkeep⟩,fun b hb => ⟨.inr (.inl hb),fun e => ?_⟩⟩
   rcases e5 with rfl | ⟨q,rfl,q1,q2⟩
   ·exact hd b hb (h3 b e)
   ·cases e; have := hlt _ hb; omega
 ·rw [List.length_append,List.length_singleton] at hj
  have hni : i ≠ xs.length := by omega
  simp only [hni,if_false] at hb1
  rcases Nat.lt_or_ge j xs.length with hjl | hjl
  ·have hnj : j ≠ xs.length := by omega
   simp only [hnj,if_false] at hb2
   exact h5 i j b hij hjl hb1 hb2
  ·obtain rfl : j = xs.length := by omega
   simp only [if_true] at hb2
   exact hd b hb2 ((h4 i hij).2 b hb1).1
theorem Zcl {xs : List (List Int)} {i j : Nat} {r : List Int} (hi : i < xs.length) : rowAt (xs.set i r) j = if i = j then r else rowAt xs j := by
 simp only [rowAt,List.getElem?_set]
 split
 ·rename_i h; subst h; rfl
 ·rfl
theorem NestP.at {e : TypeId} {xs : List (List Int)} {v : Value} {O : Nat → Prop} {w : World} (h : NestP φ e xs v O w) {i k : Nat} {y : Int} (hi : i < xs.length) (hk : (rowAt xs i)[k]? = some y) :
 ∃ b cap b0 o0 c0,v = .slice (some ⟨b,0,none⟩) xs.length cap ∧ w.cell? ⟨b,i,none⟩ = some (.slice (some ⟨b0,o0,none⟩) (rowAt xs i).length c0) ∧ w.cell? ⟨b0,o0 + k,none⟩ = some (.int .i64 y) ∧ w.frozen? ⟨b0,o0 + k,none⟩ = false ∧ O b0 ∧ (O b ∧ b ≠ b0) ∧
   ∀ x,NestP φ e (xs.set i ((rowAt xs i).set k x)) v O (w.setCell ⟨b0,o0 + k,none⟩ (.int .i64 x)) := by
 obtain ⟨vs,ob,rb,h1,h2,h3,h4,h5⟩ := h
 obtain ⟨⟨ad,n,cp,a1,a2⟩,a3⟩ := h4 i hi
 have hkl : k < (rowAt xs i).length := by
  rcases Nat.lt_or_ge k (rowAt xs i).length with h | h
  ·exact h
  ·simp [List.getElem?_eq_none h] at hk
 cases h1 with
 | empty ad => simp at h2; omega
 | mk b cap C vs hC hsz hle h0 hcs =>
   generalize hv : Value.slice ad n cp = sv at a2
   generalize hxs : (rowAt xs i).map i64E.enc = zs at a2
   generalize hrb : rb i = r0 at a2
   have hlen : zs.length = (rowAt xs i).length := by rw [← hxs]; simp
   cases a2 with
   | empty ad1 z => simp at hlen; omega
   | mk b0 o0 c0 z zs us hc hc0 hzz hrr hvv hroom =>
     have hc00 := hcs i (by omega)
     rw [a1] at hc00
     have hne : b ≠ b0 := fun e => (a3 b0 hrb).2 (by rw [e])
     subst hxs
     have hus := Zza hrr
     have hr0 := hroom.cell (j := o0 + k) (by omega)
     refine ⟨b,cap,b0,o0,c0,by rw [← h2],?_,hvv k _ (by rw [hus,List.getElem?_map,hk]; rfl),hr0.2,(a3 b0 hrb).1,⟨h3 b rfl,hne⟩,fun x => ?_⟩
     ·rw [← hlen,← hv]
      simp [World.cell?,hC,hc00]
     ·have hbk : ∀ q,q ≠ b0 → (w.setCell ⟨b0,o0 + k,none⟩ (.int .i64 x)).heap[q]? = w.heap[q]? := fun q hq => Zan _ _ _ _ _ hq
      refine ⟨vs,some b,rb,.mk b cap C vs ((hbk b hne).trans hC) hsz hle h0 hcs,by rw [h2,List.length_set],h3,fun j hj => ?_,fun i j q hij hj => h5 i j q hij (by rwa [List.length_set] at hj)⟩
      rw [List.length_set] at hj
      rw [Zcl hi]
      split
      ·rename_i e
       subst e
       refine ⟨⟨ad,n,cp,a1,?_⟩,a3⟩
       rw [hv,hrb]
       have hxl : (((rowAt xs i).set k x).map i64E.enc).length = ((rowAt xs i).map i64E.enc).length := by simp
       have := OwnRep.mk (φ := φ) (w := w.setCell ⟨b0,o0 + k,none⟩ (.int .i64 x)) (K := fun _ => False) b0 o0 c0 1 (((rowAt xs i).set k x).map i64E.enc) (((rowAt xs i).set k x).map (Value.int .i64)) (by rw [hxl]; exact hc) hc0 (fun y hy => by
        obtain ⟨z,_,rfl⟩ := List.mem_map.1 hy; rfl) (Zps _) (fun j u hj => by
         rw [List.getElem?_map,List.getElem?_set] at hj
         split at hj
         ·rename_i e
          subst e
          cases hj
          exact World.cell?_setCell_same' _ _ _ hr0.1
         ·rename_i e
          rw [World.cell?_setCell_other _ _ _ _ (by simp <;> omega)]
          exact hvv j u (by rw [hus,List.getElem?_map]; exact hj)) (Zke hroom)
       rw [hxl] at this
       exact this
      ·rename_i e
       obtain ⟨⟨ad',n',cp',g1,g2⟩,g3⟩ := h4 j hj
       refine ⟨⟨ad',n',cp',g1,g2.keepF fun q hq => hbk q fun e' => ?_⟩,g3⟩
       rcases Nat.lt_or_gt_of_ne e with h | h
       ·exact h5 i j b0 h hj hrb (by rw [← e']; exact hq)
       ·exact h5 j i b0 h hi (by rw [← e']; exact hq) hrb
end
def thinI (by_ le n : Int) : Int := if n ≤ le then n else if n - by_ < le then le else n - by_
def ownRows (own : List Int → Option (List Int)) : List (List Int) → Option (List (List Int))
 | [] => some []
 | r :: rs => (own r).bind fun r' => (ownRows own rs).map fun t => r' :: t
def Z4p (r : List Int) : Bool := decide (r.length ≤ 1000) && r.all fun n => decide (-1000000 ≤ n) && decide (n ≤ 1000000)
def allF (own : List Int → Option (List Int)) (xs : List (List Int)) (by_ le : Int) : Option (List (List Int)) :=
 if xs.length ≤ 1000 ∧ -1000000 ≤ by_ ∧ by_ ≤ 1000000 ∧ -1000000 ≤ le ∧ le ≤ 1000000 then
  (ownRows own xs).bind fun ys => if ys.all Z4p = true then some (ys.map fun r => r.map (thinI by_ le)) else none
 else none
structure Z6o (P : Program) (fn no : Nat) : Prop where
 en : Entered P fn
 run : ∀ (φ : Nat → Nat) (go : Nat) (own : List Int → Option (List Int)),φ go = no →
  (∀ r r',own r = some r' → CallOk P φ go [.sl 1 (r.map i64E.enc)] [.tok 0 1 (r'.map i64E.enc)] []) →
  ∀ (xs : List (List Int)) (by_ le : Int) (ys : List (List Int)),allF own xs by_ le = some ys →
  ∀ (w : World) (K : Nat → Prop) (v : Value),Rep φ w K v (.sl 1 (xs.map rowE2.enc)) → (∀ b,K b → b < w.heap.size) → Glob P K w →
  Calls P fn #[v,.int .i64 by_,.int .i64 le] w fun r w' => ∃ ad n cp,r = .returned (.slice ad n cp) ∧ Lo w.heap.size w w' ∧ Rep φ w' (fun b => w.heap.size ≤ b ∧ b < w'.heap.size) (.slice ad n cp) (.sl 1 (ys.map rowE2.enc))
section
variable {P : Program} {φ : Nat → Nat}
end
end Go.Ab
