/- Rows that are drawn, into a source that is lent. Conditions: none. -/
import Derived.Test.YtjbiabbimihagaaGreatDoorLC
set_option linter.unusedVariables false
set_option linter.unusedSimpArgs false
namespace Go.Ab
open Go.RowKit
structure Fq (S : Nat) (v : Value) (w w' : World) : Prop where
 size : w.heap.size ≤ w'.heap.size
 block : ∀ c,c < S → (∀ o,v ≠ .pointer (some ⟨c,o,none⟩)) → w'.heap[c]? = w.heap[c]?
 os : w'.os = w.os
 output : w'.output = w.output
 frz : ∀ b off,b < S → w'.frozen? ⟨b,off,none⟩ = w.frozen? ⟨b,off,none⟩
 room : ∀ {z : Nat} b n,b < S → Room z w b n → Room z w' b n
theorem Fq.refl (S : Nat) (v : Value) (w : World) : Fq S v w w := ⟨Nat.le_refl _,fun _ _ _ => rfl,rfl,rfl,fun _ _ _ => rfl,fun _ _ _ h => h⟩
theorem Fq.trans {S : Nat} {v : Value} {w w1 w2 : World} (h : Fq S v w w1) (h' : Fq S v w1 w2) : Fq S v w w2 :=
 ⟨Nat.le_trans h.size h'.size,fun c hc hn => (h'.block c hc hn).trans (h.block c hc hn),h'.os.trans h.os,h'.output.trans h.output,fun b o hb => (h'.frz b o hb).trans (h.frz b o hb),fun b n hb hr => h'.room b n hb (h.room b n hb hr)⟩
theorem Fq.of_lo {S : Nat} {v : Value} {w w' : World} (h : Lo S w w') : Fq S v w w' := ⟨h.size,fun c hc _ => h.block c hc,h.os,h.output,fun b off hb => frozen?_block (h.block b hb) off,fun b n hb hr => hr.of_block (h.block b hb)⟩
theorem Fq.alloc {S : Nat} {v : Value} {w w1 : World} (h : Fq S v w w1) (hS : S ≤ w1.heap.size) (o : Obj) : Fq S v w (w1.alloc o) := h.trans (.of_lo ((Lo.refl S w1).alloc hS o))
theorem Fq.drew {S : Nat} {v : Value} {w w1 : World} (h : Fq S v w w1) : Fq S v w w1.drew := h.trans (.of_lo (Lo.drew (Lo.refl S w1)))
theorem Fq.setCell {S : Nat} {v : Value} {w w1 : World} (h : Fq S v w w1) {b j : Nat} {u : Value} (hb : S ≤ b) : Fq S v w (w1.setCell ⟨b,j,none⟩ u) := h.trans (.of_lo ((Lo.refl S w1).setCell hb))
def MstK (P : Program) (φ : Nat → Nat) (S : Nat) (e eI : TypeId) (K : Nat → Prop) (x : srcE.ty) (v3 : Value) (xs : List (List Int)) (vout : Value) (acc : List Int) (vrow : Value) (w : World) : Prop :=
 ∃ (O : Nat → Prop) (B : Nat) (obr : Option Nat),BoxRep φ w K v3 3 (srcE.enc x) [B] ∧ NestP φ e xs vout O w ∧ VOwn w eI vrow (acc.map (Value.int .i64)) obr ∧
   (∀ b,obr = some b → ¬ O b ∧ S ≤ b ∧ b < w.heap.size ∧ ¬ K b ∧ b ≠ B) ∧ (∀ b,O b → S ≤ b ∧ b < w.heap.size ∧ ¬ K b ∧ b ≠ B) ∧ (∀ b,K b → b < w.heap.size ∧ b ≠ B) ∧ Glob P K w ∧ S ≤ w.heap.size ∧ B < w.heap.size
def Wid (K0 K : Nat → Prop) (S : Nat) (w : World) : Prop := (∀ b,K0 b → K b) ∧ ∀ b,K b → K0 b ∨ (S ≤ b ∧ b < w.heap.size)
theorem Wid.size {K0 K : Nat → Prop} {S : Nat} {w w' : World} (h : Wid K0 K S w) (hz : w.heap.size ≤ w'.heap.size) : Wid K0 K S w' :=
 ⟨h.1,fun b hb => (h.2 b hb).imp id fun h => ⟨h.1,Nat.lt_of_lt_of_le h.2 hz⟩⟩
def Mst (P : Program) (φ : Nat → Nat) (S : Nat) (e eI : TypeId) (K0 : Nat → Prop) (x : srcE.ty) (v3 : Value) (xs : List (List Int)) (vout : Value) (acc : List Int) (vrow : Value) (w : World) : Prop :=
 ∃ K,Wid K0 K S w ∧ MstK P φ S e eI K x v3 xs vout acc vrow w
section
variable {P : Program} {φ : Nat → Nat} {S : Nat} {e eI : TypeId} {K K0 : Nat → Prop} {x : srcE.ty} {v3 : Value} {xs : List (List Int)} {vout : Value} {acc : List Int} {vrow : Value} {w : World}
theorem MstK.keep {w' : World} (h : MstK P φ S e eI K x v3 xs vout acc vrow w) (hw : Lo w.heap.size w w') : MstK P φ S e eI K x v3 xs vout acc vrow w' := by
 obtain ⟨O,B,obr,h1,h2,h3,h4,h5,h6,h7,h8,h9⟩ := h
 have hs := hw.size
 refine ⟨O,B,obr,h1.keepW (fun b hb => hw.block b (h6 b hb).1) (fun b hb => ?_),h2.keep fun c hc => hw.block c (h5 c hc).2.1,h3.keep fun b hb => hw.block b (h4 b hb).2.2.1,fun b hb => ?_,fun b hb => ?_,fun b hb => ?_,h7.on (fun _ h => h) fun b hb => hw.block b (h6 b hb).1,by omega,by omega⟩
 ·rw [List.mem_singleton] at hb; subst hb; exact hw.block _ h9
 ·obtain ⟨a1,a2,a3,a4⟩ := h4 b hb; exact ⟨a1,a2,by omega,a4⟩
 ·obtain ⟨a2,a3,a4⟩ := h5 b hb; exact ⟨a2,by omega,a4⟩
 ·obtain ⟨a3,a4⟩ := h6 b hb; exact ⟨by omega,a4⟩
theorem Mst.keep {w' : World} (h : Mst P φ S e eI K0 x v3 xs vout acc vrow w) (hw : Lo w.heap.size w w') : Mst P φ S e eI K0 x v3 xs vout acc vrow w' := by
 obtain ⟨K,hK0,h⟩ := h; exact ⟨K,hK0.size hw.size,h.keep hw⟩
theorem Mst.row (h : Mst P φ S e eI K0 x v3 xs vout acc vrow w) (ad : Option Addr) : Mst P φ S e eI K0 x v3 xs vout [] (.slice ad 0 0) w := by
 obtain ⟨K,hK0,O,B,obr,h1,h2,h3,h4,h5⟩ := h
 exact ⟨K,hK0,O,B,none,h1,h2,.empty ad,fun b hb => (by cases hb),h5⟩
theorem Mst.out (h : Mst P φ S e eI K0 x v3 xs vout acc vrow w) (ad : Option Addr) : Mst P φ S e eI K0 x v3 [] (.slice ad 0 0) acc vrow w := by
 obtain ⟨K,hK0,O,B,obr,h1,h2,h3,h4,h5,h6⟩ := h
 exact ⟨K,hK0,fun _ => False,B,obr,h1,.nil e ad w,h3,fun b hb => ⟨fun h => h,(h4 b hb).2⟩,fun b hb => hb.elim,h6⟩
theorem Mst.lit (h : Mst P φ S e eI K0 x v3 xs vout acc vrow w) (C : Array Value) (t : TypeId) : ∃ K : Nat → Prop,K w.heap.size ∧ Wid K0 K S (w.alloc (.cells C t)) ∧ MstK P φ S e eI K x v3 xs vout acc vrow (w.alloc (.cells C t)) := by
 obtain ⟨K,hK0,h⟩ := h
 obtain ⟨O0,B0,obr0,g1,g2,g3,g4,g5,g6,g7,g8,g9⟩ := h
 have hz : (w.alloc (.cells C t)).heap.size = w.heap.size + 1 := by simp
 refine ⟨fun b => K b ∨ b = w.heap.size,.inr rfl,⟨fun b hb => .inl (hK0.1 b hb),fun b hb => hb.elim (fun hb => ((hK0.size (w' := w.alloc (.cells C t)) (by omega)).2 b hb)) fun hb => .inr ⟨by omega,by omega⟩⟩,O0,B0,obr0,?_,g2.keep fun c hc => get_old _ _ (g5 c hc).2.1,g3.keep fun b hb => get_old _ _ (g4 b hb).2.2.1,fun b hb => ?_,fun b hb => ?_,fun b hb => ?_,?_,by omega,by omega⟩
 ·have := g1.keepW (w' := w.alloc (.cells C t)) (fun b hb => get_old _ _ (g6 b hb).1) fun b hb => by
   rw [List.mem_singleton] at hb; subst hb; exact get_old _ _ g9
  exact this.mono fun b hb => .inl hb
 ·obtain ⟨a1,a2,a3,a4,a5⟩ := g4 b hb
  exact ⟨a1,a2,by omega,fun hk => hk.elim a4 (fun e => by omega),a5⟩
 ·obtain ⟨a2,a3,a4,a5⟩ := g5 b hb
  exact ⟨a2,by omega,fun hk => hk.elim a4 (fun e => by omega),a5⟩
 ·rcases hb with hb | rfl
  ·obtain ⟨a3,a4⟩ := g6 b hb; exact ⟨by omega,a4⟩
  ·exact ⟨by omega,by omega⟩
 ·exact g7.on (fun b hb => .inl hb) fun b hb => get_old _ _ (g6 b hb).1
theorem MstK.call {g : Nat} {a : A} {u : Value} {y : Int} {x' : srcE.ty} (h : MstK P φ S e eI K x v3 xs vout acc vrow w) (hK0 : Wid K0 K S w) (hu : Rep φ w K u a) (hc : CallOk P φ g [.iob 3 [srcE.enc x],a] [.int .i64 y] [.iob 3 [srcE.enc x']]) (ha : (∀ z xs,a ≠ .iob z xs) ∧ ∀ z xs,a ≠ .ios z xs) :
 Calls P (φ g) #[v3,u] w fun r w' => (r = .returned (.int .i64 y) ∧ w.heap.size ≤ w'.heap.size ∧ Fq S v3 w w' ∧ Mst P φ S e eI K0 x' v3 xs vout acc vrow w') ∧ ∀ c,c < w.heap.size → (∀ o,v3 ≠ .pointer (some ⟨c,o,none⟩)) → w'.heap[c]? = w.heap[c]? := by
 obtain ⟨O,B,obr,h1,h2,h3,h4,h5,h6,h7,h8,h9⟩ := h
 have hvB : ∃ o,v3 = .pointer (some ⟨B,o,none⟩) := by
  cases h1 with
  | mk _ o _ _ vs _ _ _ _ => exact ⟨o,rfl⟩
 have hargs : ArgReps φ w K [v3,u] [.iob 3 [srcE.enc x],a] ([B] ++ ([] ++ [])) := .cons _ _ _ _ _ _ (.iob _ _ _ _ h1) (.cons _ _ _ _ _ _ (.data _ _ hu) .nil)
 refine (hc w K [v3,u] [B] hargs (by simp) (fun b hb => by rw [List.mem_singleton] at hb; subst hb; exact fun hk => (h6 _ hk).2 rfl) (fun b hb => (h6 b hb).1) h7).mono fun r w' ⟨v,he,hb⟩ => ?_
 subst he
 obtain ⟨rvs,K',rb,ob,hv,k1,k2,hrr,ho,hnd,hbl⟩ := hb.rest
 have hfr : ∀ c,c < w.heap.size → c ≠ B → w'.heap[c]? = w.heap[c]? := fun c hc hn => hb.frame c hc (by simpa using hn)
 have hK' : ∀ b,K' b → K b ∨ b = B ∨ (w.heap.size ≤ b ∧ b < w'.heap.size) := fun b hb' => by
  rcases k2 b hb' with h | h | h
  ·exact .inl h
  ·exact .inr (.inl (by simpa using h))
  ·exact .inr (.inr h)
 have hg := hb.grow
 cases hrr with
 | cons v0 _ b0 vs0 _ bs0 r1 r2 =>
 cases r2
 cases r1 with
 | data _ r3 =>
 cases r3
 refine ⟨⟨by rw [hv]; rfl,hg,⟨hg,fun c hc hn => hfr c (by omega) (fun e => by
  obtain ⟨o,ho'⟩ := hvB
  exact hn o (by rw [ho',e])),hb.env.1,hb.env.2,fun b off hb' => hb.fr b off (by omega),fun b n hb' hr => hb.room b n hr⟩,?_⟩,fun c hc hn => hfr c hc fun e => by
  obtain ⟨o,ho'⟩ := hvB
  exact hn o (by rw [ho',e])⟩
 cases ho with
 | data _ _ _ _ _ _ hne _ => exact absurd rfl (hne.1 _ _)
 | iob _ _ _ _ bq _ _ _ bs1 hq ht =>
   have hbq : ∃ bs,bq = B :: bs := by
    cases h1 with
    | mk _ o _ _ vs _ _ _ _ =>
      generalize hpv : Value.pointer (some ⟨B,o,none⟩) = pv at hq
      cases hq with
      | mk b2 o2 _ _ vs2 bs2 _ _ _ _ => cases hpv; exact ⟨_,rfl⟩
   obtain ⟨bs2,rfl⟩ := hbq
   have hbs2 : bs2 = [] := by
    have key : ∀ {vs : List Value} {as : List A} {bs : List Nat},CellReps φ w' K' vs as bs → (∀ z xs,A.own z xs ∉ as) → bs = [] := by
     intro vs as bs hcr
     induction hcr with
     | nil => intro _; rfl
     | cons v a b vs as bs h t ih =>
       intro hn
       rw [ih fun z xs hm => hn z xs (List.mem_cons_of_mem _ hm)]
       cases h with
       | data => rfl
       | own z xs b h => exact absurd (List.mem_cons_self ..) (hn z xs)
    generalize hpv : v3 = pv at hq
    generalize hbb : B :: bs2 = bb at hq
    generalize hxx : srcE.enc x' = xx at hq
    cases hq with
    | mk b o z xx vs bs h hv hr hz =>
      cases hbb
      refine key h fun z xs hm => ?_
      obtain ⟨x1,x2,x3,⟨⟩⟩ := x'
      rw [← hxx] at hm
      simp [ET.enc,CTs.enc,CT.enc,A.cells] at hm
   subst hbs2
   have hnK : ¬ K' B := (hbl B (by simp)).1
   have hd : ∀ b,b < w.heap.size → ¬ K b → b ≠ B → ¬ K' b := fun b h1 h2 h3 h4 => by
    rcases hK' b h4 with h | h | h
    ·exact h2 h
    ·exact h3 h
    ·omega
   have hG' : Glob P K' w' := h7.on k1 fun b hb => hfr b (h6 b hb).1 (h6 b hb).2
   refine ⟨K',⟨fun b hb => k1 b (hK0.1 b hb),fun b hb => ?_⟩,O,B,obr,hq,h2.keep fun c hc => hfr c (h5 c hc).2.1 (h5 c hc).2.2.2,h3.keep fun b hb => hfr b (h4 b hb).2.2.1 (h4 b hb).2.2.2.2,fun b hb => ?_,fun b hb => ?_,fun b hb => ?_,hG',by omega,by omega⟩
   ·rcases hK' b hb with h | h | h
    ·exact (hK0.2 b h).imp id fun h => ⟨h.1,by omega⟩
    ·exact absurd (h ▸ hb) hnK
    ·exact .inr ⟨by omega,h.2⟩
   ·obtain ⟨a1,a2,a3,a4,a5⟩ := h4 b hb
    exact ⟨a1,a2,by omega,hd b a3 a4 a5,a5⟩
   ·obtain ⟨a2,a3,a4,a5⟩ := h5 b hb
    exact ⟨a2,by omega,hd b a3 a4 a5,a5⟩
   ·refine ⟨?_,fun e => hnK (by rw [← e]; exact hb)⟩
    rcases hK' b hb with h | h | h
    ·have := (h6 b h).1; omega
    ·omega
    ·exact h.2
theorem Mst.call {g : Nat} {n y : Int} {x' : srcE.ty} (h : Mst P φ S e eI K0 x v3 xs vout acc vrow w) (hc : CallOk P φ g [.iob 3 [srcE.enc x],.int .i64 n] [.int .i64 y] [.iob 3 [srcE.enc x']]) :
 Calls P (φ g) #[v3,.int .i64 n] w fun r w' => r = .returned (.int .i64 y) ∧ w.heap.size ≤ w'.heap.size ∧ Fq S v3 w w' ∧ Mst P φ S e eI K0 x' v3 xs vout acc vrow w' := by
 obtain ⟨K,hK0,h⟩ := h
 exact (h.call hK0 (.int _ _) hc ⟨fun _ _ h => (by cases h),fun _ _ h => (by cases h)⟩).mono fun _ _ h => h.1
theorem Mst.among {g : Nat} {ns : List Int} {y : Int} {x' : srcE.ty} {t : TypeId} (h : Mst P φ S e eI K0 x v3 xs vout acc vrow w) (hc : CallOk P φ g [.iob 3 [srcE.enc x],.sl 1 (ns.map i64E.enc)] [.int .i64 y] [.iob 3 [srcE.enc x']]) (cp : Nat) (hcp : ns.length ≤ cp) :
 Calls P (φ g) #[v3,.slice (some ⟨w.heap.size,0,none⟩) ns.length cp] (w.alloc (.cells (ns.map (Value.int .i64)).toArray t)) fun r w' => r = .returned (.int .i64 y) ∧ w.heap.size ≤ w'.heap.size ∧ Fq S v3 w w' ∧ Mst P φ S e eI K0 x' v3 xs vout acc vrow w' ∧ ∀ c,c < w.heap.size → (∀ o,v3 ≠ .pointer (some ⟨c,o,none⟩)) → w'.heap[c]? = w.heap[c]? := by
 have hS : S ≤ w.heap.size := by
  obtain ⟨_,_,O,B,obr,h1,h2,h3,h4,h5,h6,h7,h8,h9⟩ := h
  exact h8
 obtain ⟨K,hk,hK0,h⟩ := h.lit (ns.map (Value.int .i64)).toArray t
 have key : ∀ ys : List Int,Reps φ (w.alloc (.cells (ns.map (Value.int .i64)).toArray t)) K (ys.map (Value.int .i64)) ((ys.map i64E.enc).flatMap A.cells) := by
  intro ys
  induction ys with
  | nil => exact .nil
  | cons y ys ih => exact .cons _ _ _ _ (.int _ _) ih
 have hr := Rep.sl (φ := φ) (w := w.alloc (.cells (ns.map (Value.int .i64)).toArray t)) (ok := K) w.heap.size 0 cp 1 (ns.map i64E.enc) (ns.map (Value.int .i64)) hk (fun x hx => by
  obtain ⟨y,_,rfl⟩ := List.mem_map.1 hx; rfl) (by rw [List.length_map]; exact hcp) (key ns) (fun j u hj => by
   have := get_new w (.cells (ns.map (Value.int .i64)).toArray t) rfl
   simp only [World.cell?,this,Nat.zero_add]
   rw [List.getElem?_toArray]; exact hj)
 rw [List.length_map] at hr
 refine (h.call hK0 hr hc ⟨fun _ _ h => (by cases h),fun _ _ h => (by cases h)⟩).mono fun r w' hq => ?_
 obtain ⟨⟨q1,q2,q3,q4⟩,q5⟩ := hq
 have hz : (w.alloc (.cells (ns.map (Value.int .i64)).toArray t)).heap.size = w.heap.size + 1 := by simp
 exact ⟨q1,by omega,((Fq.refl S v3 w).alloc hS _).trans q3,q4,fun c hc hn => (q5 c (by omega) hn).trans (get_old _ _ hc)⟩
theorem Mst.rowapp (h : Mst P φ S e eI K0 x v3 xs vout acc vrow w) {t : TypeId} (ht : P.underlying t = some (.slice eI)) {i : TypeInfo} (hi : P.info? eI = some i) (hz : i.size = 1) {zv : Value} (hzv : i.zero = some zv) (hzs : zv.cells.size = 1)
 (hb : i.bytes ≤ 128) (hlim : acc.length + 1 < 1099511627776) {bu : Nat} {D : Array Value} {tu : TypeId} {y : Int} (hu : w.heap[bu]? = some (.cells D tu)) (hx : D[0]? = some (.int .i64 y)) (c : Nat) (ty : TypeId) :
 ∃ ad n cp w',(Builtin.append_ #[t,t] ty #[vrow,.slice (some ⟨bu,0,none⟩) 1 c]).run P w = .ok (.slice ad n cp) w' ∧ w.heap.size ≤ w'.heap.size ∧ Fq S v3 w w' ∧ Mst P φ S e eI K0 x v3 xs vout (acc ++ [y]) (.slice ad n cp) w' := by
 obtain ⟨K,hK0,O,B,obr,h1,h2,h3,h4,h5,h6,h7,h8,h9⟩ := h
 obtain ⟨ad,n,cp,w',ob',e1,e2,e3,e4,e5,e6,e7⟩ := h3.app ht hi hz hzv hzs hb (by rw [List.length_map]; exact hlim) hu hx rfl c ty
 have hfr : ∀ q,q < w.heap.size → obr ≠ some q → w'.heap[q]? = w.heap[q]? := e4
 have hob : ∀ b,ob' = some b → obr = some b ∨ (w.heap.size ≤ b ∧ b < w'.heap.size) := fun b hb => by
  rcases e5 with rfl | ⟨q,rfl,q1,q2⟩
  ·exact .inl hb
  ·cases hb; exact .inr ⟨q1,q2⟩
 refine ⟨ad,n,cp,w',e1,e3,.of_lo ⟨e3,fun b hb => hfr b (by omega) fun e => by have := (h4 b e).2.1; omega,e6,e7⟩,K,hK0.size e3,O,B,ob',?_,h2.keep fun c hc => hfr c (h5 c hc).2.1 fun e => (h4 c e).1 hc,by rw [List.map_append]; exact e2,fun b hb => ?_,fun b hb => ?_,fun b hb => ?_,?_,by omega,by omega⟩
 ·refine h1.keepW (fun b hb => hfr b (h6 b hb).1 fun e => (h4 b e).2.2.2.1 hb) fun b hb => ?_
  rw [List.mem_singleton] at hb; subst hb
  exact hfr _ h9 fun e => (h4 _ e).2.2.2.2 rfl
 ·rcases hob b hb with h | ⟨q1,q2⟩
  ·obtain ⟨a1,a2,a3,a4⟩ := h4 b h; exact ⟨a1,a2,by omega,a4⟩
  ·exact ⟨fun ho => by have := (h5 b ho).2.1; omega,by omega,q2,fun hk => by have := (h6 b hk).1; omega,by omega⟩
 ·obtain ⟨a2,a3,a4⟩ := h5 b hb; exact ⟨a2,by omega,a4⟩
 ·obtain ⟨a3,a4⟩ := h6 b hb; exact ⟨by omega,a4⟩
 ·exact h7.on (fun _ h => h) fun b hb => hfr b (h6 b hb).1 fun e => (h4 b e).2.2.2.1 hb
theorem Mst.outapp (h : Mst P φ S e eI K0 x v3 xs vout acc vrow w) {t : TypeId} (ht : P.underlying t = some (.slice e)) {i : TypeInfo} (hi : P.info? e = some i) (hz : i.size = 1) {zv : Value} (hzv : i.zero = some zv) (hzs : zv.cells.size = 1)
 (hb : i.bytes ≤ 128) (hlim : xs.length + 1 < 1099511627776) {bu : Nat} {D : Array Value} {tu : TypeId} (hu : w.heap[bu]? = some (.cells D tu)) (hx : D[0]? = some vrow) (c : Nat) (ty : TypeId) :
 ∃ ad n cp w',(Builtin.append_ #[t,t] ty #[vout,.slice (some ⟨bu,0,none⟩) 1 c]).run P w = .ok (.slice ad n cp) w' ∧ w.heap.size ≤ w'.heap.size ∧ Fq S v3 w w' ∧ Mst P φ S e eI K0 x v3 (xs ++ [acc]) (.slice ad n cp) [] (.slice none 0 0) w' := by
 obtain ⟨K,hK0,O,B,obr,h1,h2,h3,h4,h5,h6,h7,h8,h9⟩ := h
 obtain ⟨ad,n,cp,w',e1,e3,e6,e7,hfr,e2⟩ := h2.push h3 (fun b hb => (h4 b hb).1) (fun b hb => (h5 b hb).2.1) ht hi hz hzv hzs hb hlim hu hx c ty
 refine ⟨ad,n,cp,w',e1,e3,.of_lo ⟨e3,fun b hb => hfr b (by omega) fun ho => by have := (h5 b ho).1; omega,e6,e7⟩,K,hK0.size e3,_,B,none,?_,e2,.empty none,fun b hb => (by cases hb),fun b hb => ?_,fun b hb => ?_,?_,by omega,by omega⟩
 ·refine h1.keepW (fun b hb => hfr b (h6 b hb).1 fun ho => (h5 b ho).2.2.1 hb) fun b hb => ?_
  rw [List.mem_singleton] at hb; subst hb
  exact hfr _ h9 fun ho => (h5 _ ho).2.2.2 rfl
 ·rcases hb with ho | ho | ⟨q1,q2⟩
  ·obtain ⟨a2,a3,a4⟩ := h5 b ho; exact ⟨a2,by omega,a4⟩
  ·obtain ⟨a1,a2,a3,a4⟩ := h4 b ho; exact ⟨a2,by omega,a4⟩
  ·exact ⟨by omega,q2,fun hk => by have := (h6 b hk).1; omega,by omega⟩
 ·obtain ⟨a3,a4⟩ := h6 b hb; exact ⟨by omega,a4⟩
 ·exact h7.on (fun _ h => h) fun b hb => hfr b (h6 b hb).1 fun ho => (h5 b ho).2.2.1 hb
theorem Mst.slice (h : Mst P φ S e eI K0 x v3 xs vout acc vrow w) : ∃ ad cp,vout = .slice ad xs.length cp := by
 obtain ⟨K,hK0,O,B,obr,h1,h2,_⟩ := h
 exact h2.slice
theorem Mst.rowSlice (h : Mst P φ S e eI K0 x v3 xs vout acc vrow w) : ∃ ad n cp,vrow = .slice ad n cp := by
 obtain ⟨K,hK0,O,B,obr,h1,h2,h3,_⟩ := h
 exact h3.slice
theorem Mst.first {y : Int} {ys : List Int} {rt : List (List Int)} (h : Mst P φ S e eI K0 x v3 ((y :: ys) :: rt) vout acc vrow w) :
 ∃ b cap b0 o0 c0,vout = .slice (some ⟨b,0,none⟩) (rt.length + 1) cap ∧ w.cell? ⟨b,0,none⟩ = some (.slice (some ⟨b0,o0,none⟩) (ys.length + 1) c0) ∧ (∃ u,w.cell? ⟨b0,o0,none⟩ = some u) ∧ w.frozen? ⟨b0,o0,none⟩ = false ∧ S ≤ b0 ∧
   ∀ n,Mst P φ S e eI K0 x v3 ((n :: ys) :: rt) vout acc vrow (w.setCell ⟨b0,o0,none⟩ (.int .i64 n)) := by
 obtain ⟨K,hK0,O,B,obr,h1,h2,h3,h4,h5,h6,h7,h8,h9⟩ := h
 obtain ⟨b,cap,b0,o0,c0,g1,g2,g3,g4,g5,_,g7⟩ := h2.first
 have hb0 := h5 b0 g5
 refine ⟨b,cap,b0,o0,c0,g1,g2,g3,g4,hb0.1,fun n => ?_⟩
 have hbk : ∀ q,q ≠ b0 → (w.setCell ⟨b0,o0,none⟩ (.int .i64 n)).heap[q]? = w.heap[q]? := fun q hq => setCell_block _ _ _ _ _ hq
 refine ⟨K,hK0.size (by rw [setCell_size]; exact Nat.le_refl _),O,B,obr,?_,g7 n,h3.keep fun q hq => hbk q fun e => (h4 q hq).1 (e ▸ g5),fun q hq => by rw [setCell_size]; exact h4 q hq,fun q hq => by rw [setCell_size]; exact h5 q hq,fun q hq => by rw [setCell_size]; exact h6 q hq,
  h7.on (fun _ h => h) fun q hq => hbk q fun e => hb0.2.2.1 (e ▸ hq),by rw [setCell_size]; exact h8,by rw [setCell_size]; exact h9⟩
 refine h1.keepW (fun q hq => hbk q fun e => hb0.2.2.1 (e ▸ hq)) fun q hq => ?_
 rw [List.mem_singleton] at hq; subst hq
 exact hbk _ fun e => hb0.2.2.2 e.symm
theorem Mst.amongFirst {g : Nat} {ns : List Int} {n : Int} {x' : srcE.ty} {t : TypeId} {y : Int} {ys : List Int} {rt : List (List Int)} (h : Mst P φ S e eI K0 x v3 ((y :: ys) :: rt) vout acc vrow w) (hc : CallOk P φ g [.iob 3 [srcE.enc x],.sl 1 (ns.map i64E.enc)] [.int .i64 n] [.iob 3 [srcE.enc x']]) (cp : Nat) (hcp : ns.length ≤ cp) :
 ∃ b cap b0 o0 c0,vout = .slice (some ⟨b,0,none⟩) (rt.length + 1) cap ∧ b < w.heap.size ∧ b0 < w.heap.size ∧ w.cell? ⟨b,0,none⟩ = some (.slice (some ⟨b0,o0,none⟩) (ys.length + 1) c0) ∧ (S ≤ b0 ∧ b ≠ b0) ∧
   Calls P (φ g) #[v3,.slice (some ⟨w.heap.size,0,none⟩) ns.length cp] (w.alloc (.cells (ns.map (Value.int .i64)).toArray t)) fun r w' => r = .returned (.int .i64 n) ∧ Fq S v3 w w' ∧
    w'.cell? ⟨b,0,none⟩ = some (.slice (some ⟨b0,o0,none⟩) (ys.length + 1) c0) ∧ (∃ u,w'.cell? ⟨b0,o0,none⟩ = some u) ∧ w'.frozen? ⟨b0,o0,none⟩ = false ∧
    Mst P φ S e eI K0 x' v3 ((n :: ys) :: rt) vout acc vrow (w'.setCell ⟨b0,o0,none⟩ (.int .i64 n)) := by
 have hcall := h.among (t := t) hc cp hcp
 obtain ⟨K,hK0,O,B,obr,h1,h2,h3,h4,h5,h6,h7,h8,h9⟩ := h
 obtain ⟨b,cap,b0,o0,c0,g1,g2,g3,g4,g5,⟨g6,g6'⟩,g7⟩ := h2.first
 obtain ⟨o,hvB⟩ : ∃ o,v3 = .pointer (some ⟨B,o,none⟩) := by
  cases h1 with
  | mk _ o _ _ vs _ _ _ _ => exact ⟨o,rfl⟩
 have hb0 := h5 b0 g5
 have hb := h5 b g6
 have hn : ∀ q,q ≠ B → ∀ o',v3 ≠ .pointer (some ⟨q,o',none⟩) := fun q hq o' e => by rw [hvB] at e; cases e; exact hq rfl
 refine ⟨b,cap,b0,o0,c0,g1,hb.2.1,hb0.2.1,g2,⟨hb0.1,g6'⟩,hcall.mono fun r w' hq => ?_⟩
 obtain ⟨q1,q2,q3,q4,q5⟩ := hq
 have eb := q5 b hb.2.1 (hn b hb.2.2.2)
 have eb0 := q5 b0 hb0.2.1 (hn b0 hb0.2.2.2)
 have e1 : w'.cell? ⟨b,0,none⟩ = w.cell? ⟨b,0,none⟩ := by simp only [World.cell?,eb]
 obtain ⟨b',cap',b0',o0',c0',k1,k2,k3,k4,_,k6⟩ := q4.first
 rw [g1] at k1
 injection k1 with k1 _ _
 injection k1 with k1
 injection k1 with k1 _ _
 subst k1
 rw [e1,g2] at k2
 injection k2 with k2
 injection k2 with k2 _ _
 injection k2 with k2
 injection k2 with k2 k2' _
 subst k2 k2'
 exact ⟨q1,q3,e1.trans g2,k3,k4,k6 n⟩
theorem Mst.rowLit (h : Mst P φ S e eI K0 x v3 xs vout acc vrow w) (ns : List Int) (hn : ns ≠ []) : Mst P φ S e eI K0 x v3 xs vout ns (.slice (some ⟨w.heap.size,0,none⟩) ns.length ns.length) (w.alloc (.cells (ns.map (Value.int .i64)).toArray eI)) := by
 have h' := h.keep ((Lo.refl w.heap.size w).alloc (Nat.le_refl _) (.cells (ns.map (Value.int .i64)).toArray eI))
 obtain ⟨K,hK0,O,B,obr,h1,h2,h3,h4,h5,h6,h7,h8,h9⟩ := h
 have hz : (w.alloc (.cells (ns.map (Value.int .i64)).toArray eI)).heap.size = w.heap.size + 1 := by simp
 have hlo : Lo w.heap.size w (w.alloc (.cells (ns.map (Value.int .i64)).toArray eI)) := (Lo.refl w.heap.size w).alloc (Nat.le_refl _) _
 refine ⟨K,hK0.size (by omega),O,B,some w.heap.size,h1.keepW (fun b hb => hlo.block b (h6 b hb).1) (fun b hb => by rw [List.mem_singleton] at hb; subst hb; exact hlo.block _ h9),h2.keep fun c hc => hlo.block c (h5 c hc).2.1,?_,fun b hb => ?_,fun b hb => ?_,fun b hb => ?_,h7.on (fun _ h => h) fun b hb => hlo.block b (h6 b hb).1,by omega,by omega⟩
 ·have := VOwn.mk (w := w.alloc (.cells (ns.map (Value.int .i64)).toArray eI)) (e := eI) w.heap.size ns.length _ (ns.map (Value.int .i64)) (get_new _ _ rfl) (by simp) (by simp) (by
   intro e; exact hn (List.eq_nil_of_length_eq_zero e)) (fun j hj => by rw [List.getElem?_toArray])
  rw [List.length_map] at this
  exact this
 ·cases hb
  exact ⟨fun ho => by have := (h5 _ ho).2.1; omega,by omega,by omega,fun hk => by have := (h6 _ hk).1; omega,by omega⟩
 ·obtain ⟨a2,a3,a4⟩ := h5 b hb; exact ⟨a2,by omega,a4⟩
 ·obtain ⟨a3,a4⟩ := h6 b hb; exact ⟨by omega,a4⟩
theorem Mst.fin (h : Mst P φ S e eI K0 x v3 xs vout acc vrow w) : Rep φ w (fun b => S ≤ b ∧ b < w.heap.size) vout (.sl 1 (xs.map rowE2.enc)) := by
 obtain ⟨K,hK0,O,B,obr,h1,h2,h3,h4,h5,_⟩ := h
 exact h2.data fun b hb => ⟨(h5 b hb).1,(h5 b hb).2.1⟩
end
def mRow (pk : srcE.ty → Int → Option (Int × srcE.ty)) : Nat → srcE.ty → List Int → Option (srcE.ty × List Int)
 | 0,x,acc => some (x,acc)
 | n + 1,x,acc => (pk x 20).bind fun p => if 0 ≤ p.1 ∧ p.1 ≤ 1000 then mRow pk n p.2 (acc ++ [20 + p.1]) else none
def mRows (pk : srcE.ty → Int → Option (Int × srcE.ty)) (c : Nat) : Nat → srcE.ty → List (List Int) → Option (srcE.ty × List (List Int))
 | 0,x,out => some (x,out)
 | n + 1,x,out => (mRow pk c x []).bind fun q => mRows pk c n q.1 (out ++ [q.2])
def mOkF (pk : srcE.ty → Int → Option (Int × srcE.ty)) (x0 : srcE.ty) : Option (srcE.ty × List (List Int)) :=
 (pk x0 5).bind fun a => if 0 ≤ a.1 ∧ a.1 ≤ 1000 then (pk a.2 5).bind fun b => if 0 ≤ b.1 ∧ b.1 ≤ 1000 then mRows pk (b.1.toNat + 1) (a.1.toNat + 1) b.2 [] else none else none
def mDrawF (pk : srcE.ty → Int → Option (Int × srcE.ty)) (am : srcE.ty → List Int → Option (Int × srcE.ty)) (x0 : srcE.ty) : Option (srcE.ty × List (List Int)) :=
 (mOkF pk x0).bind fun r => if r.2.length ≤ 1001 then (pk r.1 20).bind fun c =>
   if c.1 = 0 then (match r.2 with | (_ :: ys) :: rt => (am c.2 [0,1,200,201]).bind fun q => some (q.2,(q.1 :: ys) :: rt) | _ => none)
   else if c.1 = 1 then some (c.2,r.2 ++ [[5]])
   else if c.1 = 2 then (am c.2 [0,10,11]).bind fun q => if 0 ≤ q.1 ∧ q.1 ≤ 1000 then some (q.2,List.replicate q.1.toNat [3,4]) else none
   else some (c.2,r.2) else none
noncomputable def plateDrawC (pk : srcE.ty → Int → Option (Int × srcE.ty)) (am : srcE.ty → List Int → Option (Int × srcE.ty)) : Callee :=
 { io := [true],ps := [.box srcE],rs := [.d (.one (.sl rowE2))],os := [.box srcE],f := fun x => (mDrawF pk am x.1).map fun r => (r.2,r.1) }
structure PlateDrawWalk (P : Program) (fn np na : Nat) (e eI : TypeId) : Prop where
 en : Entered P fn
 run : ∀ (φ : Nat → Nat) (gp ga : Nat) (pk : srcE.ty → Int → Option (Int × srcE.ty)) (am : srcE.ty → List Int → Option (Int × srcE.ty)),φ gp = np → φ ga = na →
  (∀ x n y x',pk x n = some (y,x') → CallOk P φ gp [.iob 3 [srcE.enc x],.int .i64 n] [.int .i64 y] [.iob 3 [srcE.enc x']]) →
  (∀ x ns y x',am x ns = some (y,x') → CallOk P φ ga [.iob 3 [srcE.enc x],.sl 1 (ns.map i64E.enc)] [.int .i64 y] [.iob 3 [srcE.enc x']]) →
  ∀ (x0 x1 : srcE.ty) (ys : List (List Int)),mDrawF pk am x0 = some (x1,ys) →
  ∀ (S : Nat) (K : Nat → Prop) (v : Value) (w : World),Mst P φ S e eI K x0 v [] (.slice none 0 0) [] (.slice none 0 0) w →
  Calls P fn #[v] w fun r w' => ∃ ad n cp,r = .returned (.slice ad n cp) ∧ Fq S v w w' ∧ Mst P φ S e eI K x1 v ys (.slice ad n cp) [] (.slice none 0 0) w'
section
variable {P : Program} {φ : Nat → Nat}
theorem nown_src (a : A) : nownE srcE a = a := by
 cases a with
 | agg l =>
   show A.agg _ = _
   rcases l with _ | ⟨a,_ | ⟨b,_ | ⟨c,l⟩⟩⟩ <;> rfl
 | _ => rfl
theorem norm_box1 {as : List A} {x : srcE.ty} (h : normU [.box srcE] as = encU [.box srcE] (x,())) : as = [.iob 3 [srcE.enc x]] := by
 have e : encU [.box srcE] (x,()) = [.iob 3 [srcE.enc x]] := by
  show [A.iob 3 [(srcE.v x).a]] = _
  rw [ET.v_a]
 rw [e] at h
 rcases as with _ | ⟨a,as⟩
 ·cases h
 ·have h1 : (MT.box srcE).norm a = .iob 3 [srcE.enc x] := by
   have := congrArg List.head? h
   exact Option.some.inj this
  have h2 : as = [] := by
   have := congrArg List.tail h
   rcases as with _ | ⟨b,as⟩
   ·rfl
   ·exact this
  rw [h2]
  congr 1
  rw [← h1]
  unfold MT.norm
  split <;> first | (rename_i hh; cases hh; done) | (rename_i hh; cases hh; rw [nown_src]) | rfl
theorem src_cells {w : World} {K : Nat → Prop} {v : Value} {x : srcE.ty} {bs : List Nat} (h : BoxRep φ w K v 3 (srcE.enc x) bs) : ∃ b o,v = .pointer (some ⟨b,o,none⟩) ∧ bs = [b] ∧ b < w.heap.size := by
 generalize hx2 : srcE.enc x = x2 at h
 cases h with
 | mk b o z _ vs bs h hv hr hz =>
   have key : ∀ {vs : List Value} {as : List A} {bs : List Nat},CellReps φ w K vs as bs → (∀ z xs,A.own z xs ∉ as) → bs = [] := by
    intro vs as bs hcr
    induction hcr with
    | nil => intro _; rfl
    | cons v a b vs as bs h t ih =>
      intro hn
      rw [ih fun z xs hm => hn z xs (List.mem_cons_of_mem _ hm)]
      cases h with
      | data => rfl
      | own z xs b h => exact absurd (List.mem_cons_self ..) (hn z xs)
   obtain rfl := key h fun z xs hm => by
    obtain ⟨x1,x2,x3,⟨⟩⟩ := x
    rw [← hx2] at hm
    simp [ET.enc,CTs.enc,CT.enc,A.cells] at hm
   exact ⟨b,o,rfl,rfl,hr.lt⟩
theorem plateDraw_ok {pk : srcE.ty → Int → Option (Int × srcE.ty)} {am : srcE.ty → List Int → Option (Int × srcE.ty)} {fn np na g gp ga : Nat} {eR eI : TypeId} (L : PlateDrawWalk P fn np na eR eI) (hφ : [g,gp,ga].map φ = [fn,np,na])
 (op : ∀ x n y x',pk x n = some (y,x') → CallOk P φ gp [.iob 3 [srcE.enc x],.int .i64 n] [.int .i64 y] [.iob 3 [srcE.enc x']])
 (oa : ∀ x ns y x',am x ns = some (y,x') → CallOk P φ ga [.iob 3 [srcE.enc x],.sl 1 (ns.map i64E.enc)] [.int .i64 y] [.iob 3 [srcE.enc x']]) : FOk P φ g (plateDrawC pk am) := by
 simp only [List.map_cons,List.map_nil,List.cons.injEq,and_true] at hφ
 obtain ⟨h1,h2,h3⟩ := hφ
 refine ⟨by rw [h1]; exact L.en,fun as res outs hc => ?_⟩
 unfold Callee.cf at hc
 split at hc
 rotate_left
 ·cases hc
 rename_i hx
 obtain ⟨y,hy,hr⟩ := Option.map_eq_some_iff.1 hc
 have hn := hx.choose_spec.2
 generalize hx.choose = x at hn hy
 obtain ⟨x,⟨⟩⟩ := x
 obtain ⟨⟨x1,ys⟩,hd,rfl⟩ := Option.map_eq_some_iff.1 (show (mDrawF pk am x).map (fun r => (r.2,r.1)) = some y from hy)
 obtain rfl := norm_box1 hn
 have e2 : resA (plateDrawC pk am) (ys,x1) = ([.sl 1 (ys.map rowE2.enc)],[.iob 3 [srcE.enc x1]]) := by
  have q : ((ET.one (.sl rowE2)).v ys).a = (ET.one (.sl rowE2)).enc ys := ET.v_a _ _
  have q2 : (srcE.v x1).a = srcE.enc x1 := ET.v_a _ _
  show ([((ET.one (.sl rowE2)).v ys).a],[A.iob 3 [(srcE.v x1).a]]) = _
  rw [q,q2]
  rfl
 rw [e2] at hr
 cases hr
 intro w K vs bs ha hnd hb hK hG
 cases ha with
 | cons v _ b0 vs _ bs1 hv t =>
 cases t
 cases hv with
 | data _ h => cases h
 | iob _ _ _ hbox =>
 obtain ⟨B,o,rfl,rfl,hB⟩ := src_cells hbox
 have hM : Mst P φ w.heap.size eR eI K x (.pointer (some ⟨B,o,none⟩)) [] (.slice none 0 0) [] (.slice none 0 0) w :=
  ⟨K,⟨fun _ h => h,fun _ h => .inl h⟩,fun _ => False,B,none,hbox,.nil eR none w,.empty none,fun b hb => (by cases hb),fun b h => h.elim,fun b hk => ⟨hK b hk,fun e => hb B (by simp) (e ▸ hk)⟩,hG,Nat.le_refl _,hB⟩
 rw [h1]
 refine (L.run φ gp ga pk am h2 h3 op oa x x1 ys hd w.heap.size K _ w hM).mono fun r w' ⟨ad,n,cp,hr,hq,hm⟩ => ?_
 subst hr
 obtain ⟨K1,hW,O,B',obr,g1,g2,g3,g4,g5,g6,g7,g8,g9⟩ := hm
 have hBB : B' = B := by
  obtain ⟨B2,o2,e1,e2,_⟩ := src_cells g1
  cases e1; cases e2; rfl
 subst hBB
 refine ⟨_,rfl,hq.size,fun b hb1 hb2 => hq.block b hb1 fun o' e => hb2 (by cases e; simp),⟨hq.os,hq.output⟩,fun b off hb1 => hq.frz b off hb1,fun b n hr => hq.room b n hr.lt hr,?_⟩
 refine ⟨[.slice ad n cp],fun b => K1 b ∨ O b,[],[B'],rfl,fun b hb => .inl (hW.1 b hb),fun b hb => ?_,.cons _ _ [] _ _ _ (.data _ _ (g2.data fun b hb => .inr hb)) .nil,.iob _ _ _ _ [B'] _ _ _ _ (g1.mono fun b hb => .inl hb) .nil,by simp,fun b hb => ?_⟩
 ·rcases hb with hb | hb
  ·exact (hW.2 b hb).imp id fun h => .inr h
  ·exact .inr (.inr ⟨(g5 b hb).1,(g5 b hb).2.1⟩)
 ·obtain rfl : b = B' := by simpa using hb
  refine ⟨fun h => h.elim (fun h => (g6 _ h).2 rfl) fun h => (g5 _ h).2.2.2 rfl,g9,.inl (by simp)⟩
end
section
variable {P : Program} {φ : Nat → Nat}
theorem ints_inv {w : World} {K : Nat → Prop} {ys : List Int} : ∀ {vs : List Value},Reps φ w K vs ((ys.map i64E.enc).flatMap A.cells) → vs = ys.map (Value.int .i64) := by
 induction ys with
 | nil => intro vs h; cases h; rfl
 | cons y ys ih =>
   intro vs h
   have h' : Reps φ w K vs (.int .i64 y :: (ys.map i64E.enc).flatMap A.cells) := h
   cases h' with
   | cons v a vs as h t =>
     cases h
     rw [ih t]; rfl
theorem ints_reps {w : World} {K : Nat → Prop} : ∀ ys : List Int,Reps φ w K (ys.map (Value.int .i64)) ((ys.map i64E.enc).flatMap A.cells)
 | [] => .nil
 | y :: ys => .cons _ _ _ _ (.int _ _) (ints_reps ys)
theorem rows_inv {w : World} {K : Nat → Prop} {xs : List (List Int)} : ∀ {vs : List Value},Reps φ w K vs ((xs.map rowE2.enc).flatMap A.cells) → vs.length = xs.length ∧ ∀ (i : Nat) (row : List Int),xs[i]? = some row → ∃ ad n cp,vs[i]? = some (.slice ad n cp) ∧ Rep φ w K (.slice ad n cp) (.sl 1 (row.map i64E.enc)) := by
 induction xs with
 | nil => intro vs h; cases h; exact ⟨rfl,fun i row h => by simp at h⟩
 | cons x xs ih =>
   intro vs h
   have h' : Reps φ w K vs (.sl 1 (x.map i64E.enc) :: (xs.map rowE2.enc).flatMap A.cells) := h
   cases h' with
   | cons v a vs as h t =>
     obtain ⟨i1,i2⟩ := ih t
     refine ⟨by simp [i1],fun i row hi => ?_⟩
     cases i with
     | zero =>
       cases hi
       have hs : ∃ ad n c,v = .slice ad n c := by
        generalize hz : x.map i64E.enc = zs at h
        cases h with
        | slE ad c z => exact ⟨_,_,_,rfl⟩
        | sl => exact ⟨_,_,_,rfl⟩
       obtain ⟨ad,n,c,rfl⟩ := hs
       exact ⟨ad,n,c,rfl,h⟩
     | succ i => exact i2 i row hi
theorem rows_at {w : World} {K : Nat → Prop} {v : Value} {xs : List (List Int)} (h : Rep φ w K v (.sl 1 (xs.map rowE2.enc))) :
 (∃ ad cp,v = .slice ad xs.length cp) ∧ ∀ (i : Nat) (row : List Int),xs[i]? = some row → ∃ b o cap ad n cp,v = .slice (some ⟨b,o,none⟩) xs.length cap ∧ w.cell? ⟨b,o + i,none⟩ = some (.slice ad n cp) ∧ K b ∧ Rep φ w K (.slice ad n cp) (.sl 1 (row.map i64E.enc)) := by
 generalize hy : xs.map rowE2.enc = ys at h
 cases h with
 | slE ad c z =>
   obtain rfl : xs = [] := by cases xs with | nil => rfl | cons => simp at hy
   exact ⟨⟨_,_,rfl⟩,fun i row h => by simp at h⟩
 | sl b o cap z _ vs hb hz hc hr hv =>
   subst hy
   obtain ⟨i1,i2⟩ := rows_inv hr
   refine ⟨⟨_,_,by rw [List.length_map]⟩,fun i row hi => ?_⟩
   obtain ⟨ad,n,cp,h1,h2⟩ := i2 i row hi
   exact ⟨b,o,cap,ad,n,cp,by rw [List.length_map],hv i _ h1,hb,h2⟩
theorem NestP.pushR {e : TypeId} {xs : List (List Int)} {v : Value} {O : Nat → Prop} {w : World} (h : NestP φ e xs v O w) {acc : List Int} {a : Option Addr} {n cp : Nat} {obr : Option Nat} (hr : OwnRep φ w (fun _ => False) (.slice a n cp) 1 (acc.map i64E.enc) obr) (hlt : ∀ b,obr = some b → b < w.heap.size)
 (hd : ∀ b,obr = some b → ¬ O b) (hO : ∀ b,O b → b < w.heap.size) {t : TypeId} (ht : P.underlying t = some (.slice e)) {i : TypeInfo} (hi : P.info? e = some i) (hz : i.size = 1) {zv : Value} (hzv : i.zero = some zv) (hzs : zv.cells.size = 1)
 (hb : i.bytes ≤ 128) (hlim : xs.length + 1 < 1099511627776) {bu : Nat} {D : Array Value} {tu : TypeId} (hu : w.heap[bu]? = some (.cells D tu)) (hx : D[0]? = some (.slice a n cp)) (c : Nat) (ty : TypeId) :
 ∃ ad n' cp' w',(Builtin.append_ #[t,t] ty #[v,.slice (some ⟨bu,0,none⟩) 1 c]).run P w = .ok (.slice ad n' cp') w' ∧ w.heap.size ≤ w'.heap.size ∧ w'.os = w.os ∧ w'.output = w.output ∧
   (∀ q,q < w.heap.size → ¬ O q → w'.heap[q]? = w.heap[q]?) ∧ NestP φ e (xs ++ [acc]) (.slice ad n' cp') (fun b => O b ∨ obr = some b ∨ (w.heap.size ≤ b ∧ b < w'.heap.size)) w' := by
 obtain ⟨vs,ob,rb,h1,h2,h3,h4,h5⟩ := h
 obtain ⟨ad,n',cp',w',ob',e1,e2,e3,e4,e5,e6,e7⟩ := h1.app ht hi hz hzv hzs hb (by rw [h2]; exact hlim) hu hx rfl c ty
 have hne : ∀ q,q < w.heap.size → ¬ O q → w'.heap[q]? = w.heap[q]? := fun q hq hn => e4 q hq fun e => hn (h3 q e)
 have hkeep : ∀ b,obr = some b → w'.heap[b]? = w.heap[b]? := fun b hb => hne b (hlt b hb) (hd b hb)
 refine ⟨ad,n',cp',w',e1,e3,e6,e7,hne,vs ++ [.slice a n cp],ob',fun j => if j = xs.length then obr else rb j,e2,by simp [h2],fun b hb => ?_,fun j hj => ?_,fun i j b hij hj hb1 hb2 => ?_⟩
 ·rcases e5 with rfl | ⟨q,rfl,q1,q2⟩
  ·exact .inl (h3 b hb)
  ·cases hb; exact .inr (.inr ⟨q1,q2⟩)
 ·rw [List.length_append,List.length_singleton] at hj
  rcases Nat.lt_or_ge j xs.length with hjl | hjl
  ·obtain ⟨⟨ad0,n0,cp0,a1,a2⟩,a3⟩ := h4 j hjl
   have hnj : j ≠ xs.length := by omega
   simp only [hnj,if_false]
   have hrow : rowAt (xs ++ [acc]) j = rowAt xs j := by simp [rowAt,List.getElem?_append_left hjl]
   rw [hrow]
   refine ⟨⟨ad0,n0,cp0,by rw [List.getElem?_append_left (by omega)]; exact a1,a2.keepF fun b hb => e4 b (hO b (a3 b hb).1) (a3 b hb).2⟩,fun b hb => ⟨.inl (a3 b hb).1,fun e => ?_⟩⟩
   rcases e5 with rfl | ⟨q,rfl,q1,q2⟩
   ·exact (a3 b hb).2 e
   ·cases e; have := hO _ (a3 _ hb).1; omega
  ·obtain rfl : j = xs.length := by omega
   simp only [if_true]
   have hrow : rowAt (xs ++ [acc]) xs.length = acc := by simp [rowAt]
   rw [hrow]
   refine ⟨⟨a,n,cp,by rw [← h2]; simp,hr.keepF hkeep⟩,fun b hb => ⟨.inr (.inl hb),fun e => ?_⟩⟩
   rcases e5 with rfl | ⟨q,rfl,q1,q2⟩
   ·exact hd b hb (h3 b e)
   ·cases e; have := hlt _ hb; omega
 ·rw [List.length_append,List.length_singleton] at hj
  have hni : i ≠ xs.length := by omega
  simp only [hni,if_false] at hb1
  rcases Nat.lt_or_ge j xs.length with hjl | hjl
  ·have hnj : j ≠ xs.length := by omega
   simp only [hnj,if_false] at hb2
   exact h5 i j b hij hjl hb1 hb2
  ·obtain rfl : j = xs.length := by omega
   simp only [if_true] at hb2
   exact hd b hb2 ((h4 i hij).2 b hb1).1
theorem rowAt_set {xs : List (List Int)} {i j : Nat} {r : List Int} (hi : i < xs.length) : rowAt (xs.set i r) j = if i = j then r else rowAt xs j := by
 simp only [rowAt,List.getElem?_set]
 split
 ·rename_i h; subst h; rfl
 ·rfl
theorem NestP.rowHd {e : TypeId} {xs : List (List Int)} {v : Value} {O : Nat → Prop} {w : World} (h : NestP φ e xs v O w) {i : Nat} (hi : i < xs.length) :
 ∃ b cap ad cp,v = .slice (some ⟨b,0,none⟩) xs.length cap ∧ w.cell? ⟨b,i,none⟩ = some (.slice ad (rowAt xs i).length cp) := by
 obtain ⟨vs,ob,rb,h1,h2,h3,h4,h5⟩ := h
 obtain ⟨⟨ad,n,cp,a1,a2⟩,a3⟩ := h4 i hi
 cases h1 with
 | empty ad => simp at h2; omega
 | mk b cap C vs hC hsz hle h0 hcs =>
   have hc00 := hcs i (by omega)
   rw [a1] at hc00
   have hn : n = (rowAt xs i).length := by
    generalize hz : (rowAt xs i).map i64E.enc = zs at a2
    generalize rb i = r0 at a2
    have hzl : zs.length = (rowAt xs i).length := by rw [← hz]; simp
    cases a2 with
    | empty => rw [← hzl]; rfl
    | mk => exact hzl
   exact ⟨b,cap,ad,cp,by rw [← h2],by rw [← hn]; simp [World.cell?,hC,hc00]⟩
theorem NestP.at {e : TypeId} {xs : List (List Int)} {v : Value} {O : Nat → Prop} {w : World} (h : NestP φ e xs v O w) {i k : Nat} {y : Int} (hi : i < xs.length) (hk : (rowAt xs i)[k]? = some y) :
 ∃ b cap b0 o0 c0,v = .slice (some ⟨b,0,none⟩) xs.length cap ∧ w.cell? ⟨b,i,none⟩ = some (.slice (some ⟨b0,o0,none⟩) (rowAt xs i).length c0) ∧ w.cell? ⟨b0,o0 + k,none⟩ = some (.int .i64 y) ∧ w.frozen? ⟨b0,o0 + k,none⟩ = false ∧ O b0 ∧ (O b ∧ b ≠ b0) ∧
   ∀ x,NestP φ e (xs.set i ((rowAt xs i).set k x)) v O (w.setCell ⟨b0,o0 + k,none⟩ (.int .i64 x)) := by
 obtain ⟨vs,ob,rb,h1,h2,h3,h4,h5⟩ := h
 obtain ⟨⟨ad,n,cp,a1,a2⟩,a3⟩ := h4 i hi
 have hkl : k < (rowAt xs i).length := by
  rcases Nat.lt_or_ge k (rowAt xs i).length with h | h
  ·exact h
  ·simp [List.getElem?_eq_none h] at hk
 cases h1 with
 | empty ad => simp at h2; omega
 | mk b cap C vs hC hsz hle h0 hcs =>
   generalize hv : Value.slice ad n cp = sv at a2
   generalize hxs : (rowAt xs i).map i64E.enc = zs at a2
   generalize hrb : rb i = r0 at a2
   have hlen : zs.length = (rowAt xs i).length := by rw [← hxs]; simp
   cases a2 with
   | empty ad1 z => simp at hlen; omega
   | mk b0 o0 c0 z zs us hc hc0 hzz hrr hvv hroom =>
     have hc00 := hcs i (by omega)
     rw [a1] at hc00
     have hne : b ≠ b0 := fun e => (a3 b0 hrb).2 (by rw [e])
     subst hxs
     have hus := ints_inv hrr
     have hr0 := hroom.cell (j := o0 + k) (by omega)
     refine ⟨b,cap,b0,o0,c0,by rw [← h2],?_,hvv k _ (by rw [hus,List.getElem?_map,hk]; rfl),hr0.2,(a3 b0 hrb).1,⟨h3 b rfl,hne⟩,fun x => ?_⟩
     ·rw [← hlen,← hv]
      simp [World.cell?,hC,hc00]
     ·have hbk : ∀ q,q ≠ b0 → (w.setCell ⟨b0,o0 + k,none⟩ (.int .i64 x)).heap[q]? = w.heap[q]? := fun q hq => setCell_block _ _ _ _ _ hq
      refine ⟨vs,some b,rb,.mk b cap C vs ((hbk b hne).trans hC) hsz hle h0 hcs,by rw [h2,List.length_set],h3,fun j hj => ?_,fun i j q hij hj => h5 i j q hij (by rwa [List.length_set] at hj)⟩
      rw [List.length_set] at hj
      rw [rowAt_set hi]
      split
      ·rename_i e
       subst e
       refine ⟨⟨ad,n,cp,a1,?_⟩,a3⟩
       rw [hv,hrb]
       have hxl : (((rowAt xs i).set k x).map i64E.enc).length = ((rowAt xs i).map i64E.enc).length := by simp
       have := OwnRep.mk (φ := φ) (w := w.setCell ⟨b0,o0 + k,none⟩ (.int .i64 x)) (K := fun _ => False) b0 o0 c0 1 (((rowAt xs i).set k x).map i64E.enc) (((rowAt xs i).set k x).map (Value.int .i64)) (by rw [hxl]; exact hc) hc0 (fun y hy => by
        obtain ⟨z,_,rfl⟩ := List.mem_map.1 hy; rfl) (ints_reps _) (fun j u hj => by
         rw [List.getElem?_map,List.getElem?_set] at hj
         split at hj
         ·rename_i e
          subst e
          cases hj
          exact World.cell?_setCell_same' _ _ _ hr0.1
         ·rename_i e
          rw [World.cell?_setCell_other _ _ _ _ (by simp <;> omega)]
          exact hvv j u (by rw [hus,List.getElem?_map]; exact hj)) (room_setCell hroom)
       rw [hxl] at this
       exact this
      ·rename_i e
       obtain ⟨⟨ad',n',cp',g1,g2⟩,g3⟩ := h4 j hj
       refine ⟨⟨ad',n',cp',g1,g2.keepF fun q hq => hbk q fun e' => ?_⟩,g3⟩
       rcases Nat.lt_or_gt_of_ne e with h | h
       ·exact h5 i j b0 h hj hrb (by rw [← e']; exact hq)
       ·exact h5 j i b0 h hi (by rw [← e']; exact hq) hrb
end
def thinI (by_ le n : Int) : Int := if n ≤ le then n else if n - by_ < le then le else n - by_
def ownRows (own : List Int → Option (List Int)) : List (List Int) → Option (List (List Int))
 | [] => some []
 | r :: rs => (own r).bind fun r' => (ownRows own rs).map fun t => r' :: t
def smallRow (r : List Int) : Bool := decide (r.length ≤ 1000) && r.all fun n => decide (-1000000 ≤ n) && decide (n ≤ 1000000)
def allF (own : List Int → Option (List Int)) (xs : List (List Int)) (by_ le : Int) : Option (List (List Int)) :=
 if xs.length ≤ 1000 ∧ -1000000 ≤ by_ ∧ by_ ≤ 1000000 ∧ -1000000 ≤ le ∧ le ≤ 1000000 then
  (ownRows own xs).bind fun ys => if ys.all smallRow = true then some (ys.map fun r => r.map (thinI by_ le)) else none
 else none
noncomputable def plateAllC (own : List Int → Option (List Int)) : Callee :=
 { io := [],ps := [.d (.one (.sl rowE2)),.d i64E,.d i64E],rs := [.d (.one (.sl rowE2))],os := [],f := fun x => allF own x.1 x.2.1 x.2.2.1 }
structure PlateAllWalk (P : Program) (fn no : Nat) : Prop where
 en : Entered P fn
 run : ∀ (φ : Nat → Nat) (go : Nat) (own : List Int → Option (List Int)),φ go = no →
  (∀ r r',own r = some r' → CallOk P φ go [.sl 1 (r.map i64E.enc)] [.tok 0 1 (r'.map i64E.enc)] []) →
  ∀ (xs : List (List Int)) (by_ le : Int) (ys : List (List Int)),allF own xs by_ le = some ys →
  ∀ (w : World) (K : Nat → Prop) (v : Value),Rep φ w K v (.sl 1 (xs.map rowE2.enc)) → (∀ b,K b → b < w.heap.size) → Glob P K w →
  Calls P fn #[v,.int .i64 by_,.int .i64 le] w fun r w' => ∃ ad n cp,r = .returned (.slice ad n cp) ∧ Lo w.heap.size w w' ∧ Rep φ w' (fun b => w.heap.size ≤ b ∧ b < w'.heap.size) (.slice ad n cp) (.sl 1 (ys.map rowE2.enc))
section
variable {P : Program} {φ : Nat → Nat}
theorem plateAll_ok {own : List Int → Option (List Int)} {fn no g go : Nat} (L : PlateAllWalk P fn no) (hφ : [g,go].map φ = [fn,no])
 (oo : ∀ r r',own r = some r' → CallOk P φ go [.sl 1 (r.map i64E.enc)] [.tok 0 1 (r'.map i64E.enc)] []) : FOk P φ g (plateAllC own) := by
 simp only [List.map_cons,List.map_nil,List.cons.injEq,and_true] at hφ
 obtain ⟨h1,h2⟩ := hφ
 refine FOk.of_contract (by rw [h1]; exact L.en) rfl rfl fun x y hy => ?_
 obtain ⟨x,b,l,⟨⟩⟩ := x
 have e1 : encU (plateAllC own).ps (x,b,l,()) = [.sl 1 ((show List (List Int) from x).map rowE2.enc),.int .i64 b,.int .i64 l] := by
  have q : ((ET.one (.sl rowE2)).v (show List (List Int) from x)).a = (ET.one (.sl rowE2)).enc (show List (List Int) from x) := ET.v_a _ _
  exact congrArg (fun z => ([z,.int .i64 b,.int .i64 l] : List A)) q
 have e2 : resA (plateAllC own) y = ([.sl 1 ((show List (List Int) from y).map rowE2.enc)],[]) := by
  have q : ((ET.one (.sl rowE2)).v (show List (List Int) from y)).a = (ET.one (.sl rowE2)).enc (show List (List Int) from y) := ET.v_a _ _
  exact congrArg (fun z => (([z] : List A),([] : List A))) q
 have e3 := congrArg (fun z => CallOk P φ g z (resA (plateAllC own) y).1 (resA (plateAllC own) y).2) e1
 refine e3.mpr ?_
 rw [e2]
 refine CallOk.of_new rfl fun w K vs hr hK hG => ?_
 cases hr with
 | cons v _ vs _ hv t =>
 cases t with
 | cons v2 _ vs2 _ hv2 t2 =>
 cases t2 with
 | cons v3 _ vs3 _ hv3 t3 =>
 cases t3
 cases hv2
 cases hv3
 have := L.run φ go own h2 oo x b l y hy w K v hv hK hG
 rw [h1]
 exact this.mono fun e w' hq => by
  obtain ⟨ad,n,cp,q1,q2,q3⟩ := hq
  exact ⟨_,q1,q2,q3⟩
end
def alMid (b le : Int) (ys : List (List Int)) (i k : Nat) : List (List Int) :=
 (ys.take i).map (fun r => r.map (thinI b le)) ++ ((((rowAt ys i).take k).map (thinI b le) ++ (rowAt ys i).drop k) :: ys.drop (i + 1))
theorem alMid_len {b le : Int} {ys : List (List Int)} {i k : Nat} (hi : i < ys.length) : (alMid b le ys i k).length = ys.length := by
 simp only [alMid,List.length_append,List.length_map,List.length_take,List.length_cons,List.length_drop]; omega
theorem alMid_row {b le : Int} {ys : List (List Int)} {i k : Nat} (hi : i < ys.length) : rowAt (alMid b le ys i k) i = ((rowAt ys i).take k).map (thinI b le) ++ (rowAt ys i).drop k := by
 have h : ((ys.take i).map (fun r => r.map (thinI b le))).length = i := by simp; omega
 simp only [rowAt,alMid]
 rw [List.getElem?_append_right (by rw [h]; exact Nat.le_refl _),h,Nat.sub_self]
 rfl
theorem alMid_rowlen {b le : Int} {ys : List (List Int)} {i k : Nat} (hi : i < ys.length) (hk : k ≤ (rowAt ys i).length) : (rowAt (alMid b le ys i k) i).length = (rowAt ys i).length := by
 rw [alMid_row hi]; simp only [List.length_append,List.length_map,List.length_take,List.length_drop]; omega
theorem alMid_at {b le : Int} {ys : List (List Int)} {i k : Nat} (hi : i < ys.length) {y : Int} (hk : (rowAt ys i)[k]? = some y) : (rowAt (alMid b le ys i k) i)[k]? = some y := by
 have hkl : k < (rowAt ys i).length := by
  rcases Nat.lt_or_ge k (rowAt ys i).length with h | h
  ·exact h
  ·simp [List.getElem?_eq_none h] at hk
 have h : (((rowAt ys i).take k).map (thinI b le)).length = k := by simp; omega
 rw [alMid_row hi,List.getElem?_append_right (by rw [h]; exact Nat.le_refl _),h,Nat.sub_self,List.getElem?_drop]
 exact hk
theorem alMid_next {b le : Int} {ys : List (List Int)} {i k : Nat} (hi : i < ys.length) {y : Int} (hk : (rowAt ys i)[k]? = some y) :
 (alMid b le ys i k).set i ((rowAt (alMid b le ys i k) i).set k (thinI b le y)) = alMid b le ys i (k + 1) := by
 have hkl : k < (rowAt ys i).length := by
  rcases Nat.lt_or_ge k (rowAt ys i).length with h | h
  ·exact h
  ·simp [List.getElem?_eq_none h] at hk
 have hy : (rowAt ys i)[k] = y := by rw [List.getElem?_eq_getElem hkl] at hk; exact Option.some.inj hk
 have h : ((ys.take i).map (fun r => r.map (thinI b le))).length = i := by simp; omega
 have h2 : (((rowAt ys i).take k).map (thinI b le)).length = k := by simp; omega
 rw [alMid_row hi]
 have e : (((rowAt ys i).take k).map (thinI b le) ++ (rowAt ys i).drop k).set k (thinI b le y) = ((rowAt ys i).take (k + 1)).map (thinI b le) ++ (rowAt ys i).drop (k + 1) := by
  rw [List.drop_eq_getElem_cons hkl,List.set_append_right _ _ (by rw [h2]; exact Nat.le_refl _),h2,Nat.sub_self,List.set_cons_zero,List.take_add_one,hk,List.map_append]
  simp
 rw [e]
 simp only [alMid]
 rw [List.set_append_right _ _ (by rw [h]; exact Nat.le_refl _),h,Nat.sub_self,List.set_cons_zero]
theorem alMid_zero {b le : Int} {ys : List (List Int)} {i : Nat} (hi : i < ys.length) : alMid b le ys i 0 = (ys.take i).map (fun r => r.map (thinI b le)) ++ ys.drop i := by
 simp only [alMid,List.take_zero,List.map_nil,List.nil_append,List.drop_zero]
 rw [List.drop_eq_getElem_cons hi]
 simp [rowAt,List.getElem?_eq_getElem hi]
theorem alMid_full {b le : Int} {ys : List (List Int)} {i : Nat} (hi : i < ys.length) : alMid b le ys i (rowAt ys i).length = (ys.take (i + 1)).map (fun r => r.map (thinI b le)) ++ ys.drop (i + 1) := by
 simp only [alMid,List.take_length,List.drop_length,List.append_nil]
 rw [List.take_add_one,List.getElem?_eq_getElem hi,List.map_append]
 simp [rowAt,List.getElem?_eq_getElem hi]
end Go.Ab
