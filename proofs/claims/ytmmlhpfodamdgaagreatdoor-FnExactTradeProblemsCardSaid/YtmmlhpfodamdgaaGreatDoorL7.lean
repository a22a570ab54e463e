/- Laws about a workshop, out of walks and contracts. Conditions: none. -/
import Derived.Test.YtmmlhpfodamdgaaGreatDoorL6
set_option linter.unusedVariables false
set_option linter.unusedSimpArgs false
namespace Go.Ab
structure Rg (X : Nat → Prop) (w w' : World) : Prop where
 size : w.heap.size ≤ w'.heap.size
 block : ∀ c,c < w.heap.size → ¬ X c → w'.heap[c]? = w.heap[c]?
 os : w'.os = w.os
 output : w'.output = w.output
def OwnP (φ : Nat → Nat) (z : Nat) (xs : List A) (v : Value) (lo hi : Nat) (w : World) : Prop :=
 hi ≤ w.heap.size ∧ xs.all A.plain = true ∧ ∃ b,OwnRep φ w (fun _ => False) v z xs b ∧ ∀ c,b = some c → lo ≤ c ∧ c < hi
section
variable {P : Program} {φ : Nat → Nat}
theorem OwnRep.any {z : Nat} {xs : List A} {v : Value} {b : Option Nat} {K K2 : Nat → Prop} {w : World} (h : OwnRep φ w K v z xs b) (hp : xs.all A.plain = true) : OwnRep φ w K2 v z xs b := by
 cases h with
 | empty ad z => exact .empty ad z
 | mk b o cap z xs vs hc h0 hzz hr hv hroom => exact .mk b o cap z xs vs hc h0 hzz (hr.plain (flat_plains hp)) hv hroom
theorem OwnRep.val {z : Nat} {xs : List A} {v : Value} {b : Option Nat} {K : Nat → Prop} {w : World} (h : OwnRep φ w K v z xs b) : (b = none ∧ ∃ ad,v = .slice ad 0 0) ∨ ∃ c o n cap,b = some c ∧ v = .slice (some ⟨c,o,none⟩) n cap ∧ cap ≠ 0 := by
 cases h with
 | empty ad z => exact .inl ⟨rfl,ad,rfl⟩
 | mk b o cap z xs vs hc h0 hzz hr hv hroom => exact .inr ⟨b,o,_,cap,rfl,rfl,h0⟩
theorem OwnP.keep {z : Nat} {xs : List A} {v : Value} {lo hi : Nat} {w w' : World} (h : OwnP φ z xs v lo hi w) (hs : ∀ c,lo ≤ c → c < hi → w'.heap[c]? = w.heap[c]?) (hz : w.heap.size ≤ w'.heap.size) : OwnP φ z xs v lo hi w' := by
 obtain ⟨h1,h2,b,h3,h4⟩ := h
 refine ⟨Nat.le_trans h1 hz,h2,b,?_,h4⟩
 cases h3 with
 | empty ad z => exact .empty ad z
 | mk b o cap z xs vs hc h0 hzz hr hv hroom =>
   obtain ⟨l1,l2⟩ := h4 b rfl
   have e := hs b l1 l2
   exact .mk b o cap z xs vs hc h0 hzz (hr.mono (fun _ h => h.elim) fun _ h => h.elim) (hv.of_block e) (hroom.of_block e)
theorem OwnP.data {z : Nat} {xs : List A} {v : Value} {lo hi : Nat} {w : World} (h : OwnP φ z xs v lo hi w) : Rep φ w (fun b => lo ≤ b ∧ b < hi) v (.sl z xs) := by
 obtain ⟨h1,h2,b,h3,h4⟩ := h
 cases h3 with
 | empty ad z => exact .slE ad 0 z
 | mk b o cap z xs vs hc h0 hzz hr hv hroom => exact .sl b o cap z xs vs (h4 b rfl) hzz hc (hr.plain (flat_plains h2)) hv
theorem OwnP.slice {z : Nat} {xs : List A} {v : Value} {lo hi : Nat} {w : World} (h : OwnP φ z xs v lo hi w) : ∃ ad n cp,v = .slice ad n cp := by
 obtain ⟨h1,h2,b,h3,h4⟩ := h
 cases h3 with
 | empty ad z => exact ⟨_,_,_,rfl⟩
 | mk => exact ⟨_,_,_,rfl⟩
theorem OwnRep.toP {z : Nat} {xs : List A} {v : Value} {b : Option Nat} {K : Nat → Prop} {lo : Nat} {w : World} (h : OwnRep φ w K v z xs b) (hp : xs.all A.plain = true) (hb : ∀ c,b = some c → lo ≤ c ∧ c < w.heap.size) : OwnP φ z xs v lo w.heap.size w := by
 refine ⟨Nat.le_refl _,hp,b,?_,hb⟩
 cases h with
 | empty ad z => exact .empty ad z
 | mk b o cap z xs vs hc h0 hzz hr hv hroom => exact .mk b o cap z xs vs hc h0 hzz (hr.plain (flat_plains hp)) hv hroom
theorem CallOk.own {g j z : Nat} {as xs : List A} (hc : CallOk P φ g as [.tok j z xs] []) {w : World} {K : Nat → Prop} {vs : List Value} (hr : Reps φ w K vs as) (hK : ∀ b,K b → b < w.heap.size) (hG : Glob P K w) :
 Calls P (φ g) vs.toArray w fun e w' => ∃ ad n cp,e = .returned (.slice ad n cp) ∧ Lo w.heap.size w w' ∧ OwnP φ z xs (.slice ad n cp) w.heap.size w'.heap.size w' := by
 refine (hc w K vs [] (argReps_of hr) List.nodup_nil (fun _ h => by cases h) hK hG).mono fun e w' ⟨v,he,hb⟩ => ?_
 subst he
 obtain ⟨rvs,K',rb,ob,hv,_,_,hrr,ho,_,hbl⟩ := hb.rest
 cases hrr with
 | cons v0 _ b0 vs0 _ bs0 h1 h2 =>
   cases h2
   cases h1 with
   | data _ h3 => cases h3
   | tok _ _ _ b h3 hp =>
     have hP := h3.toP hp (fun c hc => by
      subst hc
      have := hbl c (by simp)
      exact ⟨this.2.2.resolve_left (by simp),this.2.1⟩)
     obtain ⟨ad,n,cp,rfl⟩ := hP.slice
     exact ⟨ad,n,cp,by rw [hv]; rfl,⟨hb.grow,fun b hb' => hb.frame b hb' (by simp),hb.env.1,hb.env.2⟩,hP⟩
theorem CallOk.ownInt {g j z : Nat} {as xs : List A} {k : IntKind} {c : Int} (hc : CallOk P φ g as [.tok j z xs,.int k c] []) {w : World} {K : Nat → Prop} {vs : List Value} (hr : Reps φ w K vs as) (hK : ∀ b,K b → b < w.heap.size) (hG : Glob P K w) :
 Calls P (φ g) vs.toArray w fun e w' => ∃ ad n cp,e = .returned (.tuple #[.slice ad n cp,.int k c]) ∧ Lo w.heap.size w w' ∧ OwnP φ z xs (.slice ad n cp) w.heap.size w'.heap.size w' := by
 refine (hc w K vs [] (argReps_of hr) List.nodup_nil (fun _ h => by cases h) hK hG).mono fun e w' ⟨v,he,hb⟩ => ?_
 subst he
 obtain ⟨rvs,K',rb,ob,hv,_,_,hrr,ho,_,hbl⟩ := hb.rest
 cases hrr with
 | cons v0 _ b0 vs0 _ bs0 h1 h2 =>
   cases h2 with
   | cons v1 _ b1 vs1 _ bs1 h5 h6 =>
   cases h6
   cases h5 with
   | data _ h7 =>
   cases h7
   cases h1 with
   | data _ h3 => cases h3
   | tok _ _ _ b h3 hp =>
     have hP := h3.toP hp (fun c hc => by
      subst hc
      have := hbl c (by simp)
      exact ⟨this.2.2.resolve_left (by simp),this.2.1⟩)
     obtain ⟨ad,n,cp,rfl⟩ := hP.slice
     exact ⟨ad,n,cp,by rw [hv]; rfl,⟨hb.grow,fun b hb' => hb.frame b hb' (by simp),hb.env.1,hb.env.2⟩,hP⟩
theorem CallOk.num {g : Nat} {as : List A} {k : IntKind} {n : Int} (hc : CallOk P φ g as [.int k n] []) {w : World} {K : Nat → Prop} {vs : List Value} (hr : Reps φ w K vs as) (hK : ∀ b,K b → b < w.heap.size) (hG : Glob P K w) :
 Calls P (φ g) vs.toArray w fun e w' => e = .returned (.int k n) ∧ Lo w.heap.size w w' := by
 refine (hc w K vs [] (argReps_of hr) List.nodup_nil (fun _ h => by cases h) hK hG).mono fun e w' ⟨v,he,hb⟩ => ?_
 subst he
 obtain ⟨rvs,K',rb,ob,hv,_,_,hrr,_⟩ := hb.rest
 refine ⟨?_,hb.grow,fun b hb' => hb.frame b hb' (by simp),hb.env.1,hb.env.2⟩
 cases hrr with
 | cons v0 _ _ vs0 _ _ h1 h2 =>
   cases h2
   cases h1 with
   | data _ h3 => cases h3; rw [hv]; rfl
theorem CallOk.mark {g z : Nat} {xs ys : List A} {m m' : Int} (hc : CallOk P φ g [.ios z xs,.int .i64 m] [.int .i64 m'] [.ios z ys]) (hys : ys.all A.plain = true) {w : World} {K : Nat → Prop} {v : Value} {lo hi : Nat}
 (hv : OwnP φ z xs v lo hi w) (hK : ∀ b,K b → b < w.heap.size) (hKx : ∀ b,lo ≤ b → b < hi → ¬ K b) (hG : Glob P K w) :
 Calls P (φ g) #[v,.int .i64 m] w fun e w' => e = .returned (.int .i64 m') ∧ Rg (fun c => lo ≤ c ∧ c < hi) w w' ∧ OwnP φ z ys v lo hi w' := by
 obtain ⟨h1,h2,b,h3,h4⟩ := hv
 have ha : ArgReps φ w K [v,.int .i64 m] [.ios z xs,.int .i64 m] (b.toList ++ ([] ++ [])) := .cons _ _ _ _ _ _ (.ios v z xs b (h3.mono fun _ h => h.elim)) (.cons _ _ _ _ _ _ (.data _ _ (.int _ _)) .nil)
 simp only [List.append_nil] at ha
 refine (hc w K [v,.int .i64 m] b.toList ha (by cases b <;> simp) (fun c hc' => by
  cases b with
  | none => simp at hc'
  | some b0 =>
    simp only [Option.toList,List.mem_singleton] at hc'
    subst hc'
    exact hKx _ (h4 _ rfl).1 (h4 _ rfl).2) hK hG).mono fun e w' ⟨u,he,hb⟩ => ?_
 subst he
 obtain ⟨rvs,K',rb,ob,hv',_,_,hrr,ho,_,hbl⟩ := hb.rest
 refine ⟨?_,⟨hb.grow,fun c hc1 hc2 => hb.frame c hc1 (fun hm => ?_),hb.env.1,hb.env.2⟩,?_⟩
 ·cases hrr with
  | cons v0 _ _ vs0 _ _ h5 h6 =>
    cases h6
    cases h5 with
    | data _ h7 => cases h7; rw [hv']; rfl
 ·cases b with
  | none => simp at hm
  | some b0 =>
    simp only [Option.toList,List.mem_singleton] at hm
    subst hm
    exact hc2 (h4 _ rfl)
 ·cases ho with
  | data _ _ _ _ _ _ hne _ => exact absurd rfl (hne.2 z xs)
  | ios _ _ _ _ b1 _ _ _ bs1 h5 hl ht =>
    have hP : OwnP φ z ys v lo hi w' := by
     refine ⟨Nat.le_trans h1 hb.grow,hys,b1,h5.any hys,fun c hc' => ?_⟩
     subst hc'
     rcases h5.val with ⟨e,_⟩ | ⟨c1,o1,n1,p1,e,e2,e3⟩
     ·cases e
     ·cases e
      rcases h3.val with ⟨_,ad,e4⟩ | ⟨c2,o2,n2,p2,e4,e5,_⟩
      ·rw [e4] at e2; cases e2; exact absurd rfl e3
      ·rw [e5] at e2; cases e2; exact h4 _ e4
    exact hP
def StepsP (φ : Nat → Nat) (t : TypeId) (xs : List stepE.ty) (v : Value) (lo hi : Nat) (w : World) : Prop :=
 hi ≤ w.heap.size ∧ ∃ (b : Nat) (C : Array Value) (ad : Nat → Option Addr) (n cp los his : Nat → Nat),v = .slice (some ⟨b,0,none⟩) xs.length xs.length ∧ lo ≤ b ∧ b < hi ∧ w.heap[b]? = some (.cells C t) ∧ C.size = xs.length * 4 ∧
  (∀ j,j < xs.length → C[j * 4]? = some (.string ⟨(stAt xs j).1.toArray⟩) ∧ C[j * 4 + 1]? = some (.int .i64 (stAt xs j).2.1) ∧ C[j * 4 + 2]? = some (.int .i64 (stAt xs j).2.2.1) ∧ C[j * 4 + 3]? = some (.slice (ad j) (n j) (cp j)) ∧
    OwnP φ 1 ((show List Int from (stAt xs j).2.2.2.1).map (ET.enc (.one (.int .i64)))) (.slice (ad j) (n j) (cp j)) (los j) (his j) w ∧ b < los j ∧ los j ≤ his j ∧ his j ≤ hi) ∧ ∀ i j,i < j → j < xs.length → his i ≤ los j
theorem StepsP.keep {t : TypeId} {xs : List stepE.ty} {v : Value} {lo hi : Nat} {w w' : World} (h : StepsP φ t xs v lo hi w) (hs : ∀ c,lo ≤ c → c < hi → w'.heap[c]? = w.heap[c]?) (hz : w.heap.size ≤ w'.heap.size) : StepsP φ t xs v lo hi w' := by
 obtain ⟨h1,b,C,ad,n,cp,los,his,h2,h3,h4,h5,h6,h7,h8⟩ := h
 refine ⟨Nat.le_trans h1 hz,b,C,ad,n,cp,los,his,h2,h3,h4,(hs b h3 h4).trans h5,h6,fun j hj => ?_,h8⟩
 obtain ⟨a0,a1,a2,a3,a4,a5,a6,a7⟩ := h7 j hj
 exact ⟨a0,a1,a2,a3,a4.keep (fun c c1 c2 => hs c (by omega) (by omega)) hz,a5,a6,a7⟩
theorem StepsP.data {t : TypeId} {xs : List stepE.ty} {v : Value} {lo hi : Nat} {w : World} (h : StepsP φ t xs v lo hi w) : Rep φ w (fun b => lo ≤ b ∧ b < hi) v (.sl 4 (xs.map stepE.enc)) := by
 obtain ⟨h1,b,C,ad,n,cp,los,his,rfl,h3,h4,h5,h6,h7,h8⟩ := h
 have key : ∀ k i,i + k = xs.length → Reps φ w (fun b => lo ≤ b ∧ b < hi) ((List.range' i k).flatMap fun j => [Value.string ⟨(stAt xs j).1.toArray⟩,.int .i64 (stAt xs j).2.1,.int .i64 (stAt xs j).2.2.1,.slice (ad j) (n j) (cp j)]) (((xs.drop i).map stepE.enc).flatMap A.cells) ∧
  Cells w b (i * 4) ((List.range' i k).flatMap fun j => [Value.string ⟨(stAt xs j).1.toArray⟩,.int .i64 (stAt xs j).2.1,.int .i64 (stAt xs j).2.2.1,.slice (ad j) (n j) (cp j)]) := by
  intro k
  induction k with
  | zero =>
    intro i hi'
    rw [List.drop_eq_nil_of_le (by omega)]
    exact ⟨.nil,fun j v hv => by simp at hv⟩
  | succ k ih =>
    intro i hi'
    have hil : i < xs.length := by omega
    obtain ⟨r1,r2⟩ := ih (i + 1) (by omega)
    obtain ⟨a0,a1,a2,a3,a4,a5,a6,a7⟩ := h7 i hil
    have hst : stAt xs i = xs[i] := by simp [stAt,List.getElem?_eq_getElem hil]
    rw [List.range'_succ,List.flatMap_cons,List.drop_eq_getElem_cons hil,List.map_cons,List.flatMap_cons]
    refine ⟨Reps.append ?_ r1,?_⟩
    ·have hd := a4.data.mono (ok' := fun b => lo ≤ b ∧ b < hi) (fun _ _ => rfl) (fun c hc => ⟨by omega,by omega⟩)
     rw [hst] at hd ⊢
     generalize xs[i] = x at hd ⊢
     obtain ⟨s1,s2,s3,s4,⟨⟩⟩ := x
     exact .cons _ _ _ _ (.str s1) (.cons _ _ _ _ (.int _ _) (.cons _ _ _ _ (.int _ _) (.cons _ _ _ _ hd .nil)))
    ·intro j v hv
     have hcell : ∀ m u,C[m]? = some u → w.cell? ⟨b,m,none⟩ = some u := fun m u hu => by simp [World.cell?,h5,hu]
     match j,hv with
     | 0,hv => cases hv; exact hcell _ _ a0
     | 1,hv => cases hv; exact hcell _ _ a1
     | 2,hv => cases hv; exact hcell _ _ a2
     | 3,hv => cases hv; exact hcell _ _ a3
     | j + 4,hv =>
       have := r2 j v (by simpa using hv)
       rw [show (i + 1) * 4 + j = i * 4 + (j + 4) by omega] at this
       exact this
 obtain ⟨r1,r2⟩ := key xs.length 0 (by omega)
 have := Rep.sl (φ := φ) (w := w) (ok := fun b => lo ≤ b ∧ b < hi) b 0 xs.length 4 (xs.map stepE.enc) _ ⟨h3,h4⟩ (fun x hx => by
  obtain ⟨y,_,rfl⟩ := List.mem_map.1 hx
  exact ET.enc_z stepE y) (by simp) r1 (by simpa using r2)
 rw [List.length_map] at this
 exact this
@[reducible] def i64E : ET := .one (.int .i64)
@[reducible] def arcE : ET := .agg (.cons (.int .i64) (.cons (.int .i64) (.cons (.int .i64) (.cons (.int .i64) (.cons (.int .i64) (.cons (.int .i64) .nil))))))
@[reducible] def neckE : ET := .agg (.cons (.int .i64) (.cons (.int .i64) (.cons (.int .i64) (.cons (.int .i64) .nil))))
@[reducible] def paperE : ET := .agg (.cons .str (.cons .str (.cons (.int .i64) (.cons (.int .i64) (.cons (.int .i64) .nil)))))
@[reducible] def entryE : ET := .agg (.cons (.int .i64) (.cons .str (.cons .str (.cons (.int .i64) .nil))))
@[reducible] def shopE : ET := .agg (.cons (.sl arcE) (.cons (.sl neckE) (.cons (.int .i64) (.cons (.sl stepE) (.cons (.sl i64E) (.cons (.int .i64) (.cons (.sl paperE) (.cons (.sl entryE) .nil))))))))
structure ShopP (φ : Nat → Nat) (t : TypeId) (x : shopE.ty) (d : Nat → Value) (l h : Nat → Nat) (w : World) : Prop where
 p0 : OwnP φ 6 ((show List arcE.ty from x.1).map arcE.enc) (d 0) (l 0) (h 0) w
 p1 : OwnP φ 4 ((show List neckE.ty from x.2.1).map neckE.enc) (d 1) (l 1) (h 1) w
 p3 : StepsP φ t x.2.2.2.1 (d 3) (l 3) (h 3) w
 p4 : OwnP φ 1 ((show List Int from x.2.2.2.2.1).map i64E.enc) (d 4) (l 4) (h 4) w
 p6 : OwnP φ 5 ((show List paperE.ty from x.2.2.2.2.2.2.1).map paperE.enc) (d 6) (l 6) (h 6) w
 p7 : OwnP φ 4 ((show List entryE.ty from x.2.2.2.2.2.2.2.1).map entryE.enc) (d 7) (l 7) (h 7) w
 ch : (l 0 ≤ h 0 ∧ h 0 ≤ l 1) ∧ (l 1 ≤ h 1 ∧ h 1 ≤ l 3) ∧ (l 3 ≤ h 3 ∧ h 3 ≤ l 4) ∧ (l 4 ≤ h 4 ∧ h 4 ≤ l 6) ∧ (l 6 ≤ h 6 ∧ h 6 ≤ l 7) ∧ l 7 ≤ h 7
def shopV (x : shopE.ty) (d : Nat → Value) : Value := .agg #[d 0,d 1,.int .i64 x.2.2.1,d 3,d 4,.int .i64 x.2.2.2.2.2.1,d 6,d 7]
theorem ShopP.keep {t : TypeId} {x : shopE.ty} {d : Nat → Value} {l h : Nat → Nat} {w w' : World} (H : ShopP φ t x d l h w) (hs : ∀ c,l 0 ≤ c → c < h 7 → w'.heap[c]? = w.heap[c]?) (hz : w.heap.size ≤ w'.heap.size) : ShopP φ t x d l h w' := by
 have c := H.ch
 exact ⟨H.p0.keep (fun _ _ _ => hs _ (by omega) (by omega)) hz,H.p1.keep (fun _ _ _ => hs _ (by omega) (by omega)) hz,H.p3.keep (fun _ _ _ => hs _ (by omega) (by omega)) hz,H.p4.keep (fun _ _ _ => hs _ (by omega) (by omega)) hz,H.p6.keep (fun _ _ _ => hs _ (by omega) (by omega)) hz,H.p7.keep (fun _ _ _ => hs _ (by omega) (by omega)) hz,H.ch⟩
theorem ShopP.data {t : TypeId} {x : shopE.ty} {d : Nat → Value} {l h : Nat → Nat} {w : World} (H : ShopP φ t x d l h w) : Rep φ w (fun b => l 0 ≤ b ∧ b < h 7) (shopV x d) (shopE.enc x) := by
 have c := H.ch
 obtain ⟨x0,x1,x2,x3,x4,x5,x6,x7,⟨⟩⟩ := x
 have m : ∀ {v : Value} {a : A} {l' h' : Nat},Rep φ w (fun b => l' ≤ b ∧ b < h') v a → l 0 ≤ l' → h' ≤ h 7 → Rep φ w (fun b => l 0 ≤ b ∧ b < h 7) v a := fun hr h1 h2 => hr.mono (fun _ _ => rfl) fun b hb => ⟨by omega,by omega⟩
 exact .agg [_,_,_,_,_,_,_,_] _ (.cons _ _ _ _ (m H.p0.data (by omega) (by omega)) (.cons _ _ _ _ (m H.p1.data (by omega) (by omega)) (.cons _ _ _ _ (.int _ _) (.cons _ _ _ _ (m H.p3.data (by omega) (by omega)) (.cons _ _ _ _ (m H.p4.data (by omega) (by omega)) (.cons _ _ _ _ (.int _ _) (.cons _ _ _ _ (m H.p6.data (by omega) (by omega)) (.cons _ _ _ _ (m H.p7.data (by omega) (by omega)) .nil))))))))
theorem OwnP.weak {z : Nat} {xs : List A} {v : Value} {lo hi lo' hi' : Nat} {w : World} (h : OwnP φ z xs v lo hi w) (h1 : lo' ≤ lo) (h2 : hi ≤ hi') (h3 : hi' ≤ w.heap.size) : OwnP φ z xs v lo' hi' w := by
 obtain ⟨_,a2,b,a3,a4⟩ := h
 exact ⟨h3,a2,b,a3,fun c hc => ⟨by have := a4 c hc; omega,by have := a4 c hc; omega⟩⟩
end
def Hi (lo : Nat) (w w' : World) : Prop := w.heap.size ≤ w'.heap.size ∧ ∀ b,lo ≤ b → b < w.heap.size → w'.heap[b]? = w.heap[b]?
theorem get_new (w : World) (o : Obj) {b : Nat} (h : b = w.heap.size) : (w.alloc o).heap[b]? = some o := by subst h; simp only [World.alloc,Array.getElem?_push_size]
theorem get_old (w : World) (o : Obj) {b : Nat} (h : b < w.heap.size) : (w.alloc o).heap[b]? = w.heap[b]? := by simp only [World.alloc]; rw [Array.getElem?_push_lt h,Array.getElem?_eq_getElem h]
theorem setCell_size (w : World) (a : Addr) (v : Value) : (w.setCell a v).heap.size = w.heap.size := by simp [World.setCell]
theorem setCell_block (w : World) (b j c : Nat) (v : Value) (h : c ≠ b) : (w.setCell ⟨b,j,none⟩ v).heap[c]? = w.heap[c]? := Go.RowKit.Below.heap_setCell w _ v c h
theorem Lo.setCell {B : Nat} {w w1 : World} (h : Lo B w w1) {b j : Nat} {v : Value} (hb : B ≤ b) : Lo B w (w1.setCell ⟨b,j,none⟩ v) :=
 ⟨by rw [setCell_size]; exact h.size,fun c hc => (setCell_block _ _ _ _ _ (by omega)).trans (h.block c hc),h.os,h.output⟩
theorem Hi.refl (lo : Nat) (w : World) : Hi lo w w := ⟨Nat.le_refl _,fun _ _ _ => rfl⟩
theorem Hi.setCell {lo : Nat} {w w1 : World} (h : Hi lo w w1) {b j : Nat} {v : Value} (hb : b < lo) : Hi lo w (w1.setCell ⟨b,j,none⟩ v) :=
 ⟨by rw [setCell_size]; exact h.1,fun c h1 h2 => (setCell_block _ _ _ _ _ (by omega)).trans (h.2 c h1 h2)⟩
theorem setCell_at {w : World} {b : Nat} {C : Array Value} {t : TypeId} (h : w.heap[b]? = some (.cells C t)) (j : Nat) (v : Value) : (w.setCell ⟨b,j,none⟩ v).heap[b]? = some (.cells (C.setIfInBounds j v) t) := by
 simp only [World.setCell,Array.getElem?_modify,if_true,h,Option.map_some]
 rfl
theorem Lo.drew {B : Nat} {w w1 : World} (h : Lo B w w1) : Lo B w w1.drew := ⟨h.size,h.block,h.os,h.output⟩
theorem Hi.of_lo {lo : Nat} {w w' : World} (h : Lo w.heap.size w w') : Hi lo w w' := ⟨h.size,fun b _ hb => h.block b hb⟩
theorem Hi.trans {lo : Nat} {w w1 w2 : World} (h : Hi lo w w1) (h' : Hi lo w1 w2) : Hi lo w w2 := ⟨Nat.le_trans h.1 h'.1,fun b h1 h2 => (h'.2 b h1 (Nat.lt_of_lt_of_le h2 h.1)).trans (h.2 b h1 h2)⟩
theorem set4_in (C : Array Value) (k : Nat) (a0 a1 a2 a3 : Value) (h : k * 4 + 3 < C.size) :
 ((((C.setIfInBounds (k * 4) a0).setIfInBounds (k * 4 + 1) a1).setIfInBounds (k * 4 + 2) a2).setIfInBounds (k * 4 + 3) a3)[k * 4]? = some a0 ∧
 ((((C.setIfInBounds (k * 4) a0).setIfInBounds (k * 4 + 1) a1).setIfInBounds (k * 4 + 2) a2).setIfInBounds (k * 4 + 3) a3)[k * 4 + 1]? = some a1 ∧
 ((((C.setIfInBounds (k * 4) a0).setIfInBounds (k * 4 + 1) a1).setIfInBounds (k * 4 + 2) a2).setIfInBounds (k * 4 + 3) a3)[k * 4 + 2]? = some a2 ∧
 ((((C.setIfInBounds (k * 4) a0).setIfInBounds (k * 4 + 1) a1).setIfInBounds (k * 4 + 2) a2).setIfInBounds (k * 4 + 3) a3)[k * 4 + 3]? = some a3 := by
 refine ⟨?_,?_,?_,?_⟩ <;> simp [Array.getElem?_setIfInBounds] <;> omega
theorem set4_out (C : Array Value) (k i : Nat) (a0 a1 a2 a3 : Value) (h : i < k * 4 ∨ k * 4 + 3 < i) :
 ((((C.setIfInBounds (k * 4) a0).setIfInBounds (k * 4 + 1) a1).setIfInBounds (k * 4 + 2) a2).setIfInBounds (k * 4 + 3) a3)[i]? = C[i]? := by
 rw [Array.getElem?_setIfInBounds_ne (by omega),Array.getElem?_setIfInBounds_ne (by omega),Array.getElem?_setIfInBounds_ne (by omega),Array.getElem?_setIfInBounds_ne (by omega)]
theorem Rg.refl (X : Nat → Prop) (w : World) : Rg X w w := ⟨Nat.le_refl _,fun _ _ _ => rfl,rfl,rfl⟩
theorem Rg.trans {X : Nat → Prop} {w w1 w2 : World} (h : Rg X w w1) (h' : Rg X w1 w2) : Rg X w w2 :=
 ⟨Nat.le_trans h.size h'.size,fun c hc hx => (h'.block c (Nat.lt_of_lt_of_le hc h.size) hx).trans (h.block c hc hx),h'.os.trans h.os,h'.output.trans h.output⟩
theorem Rg.of_lo {X : Nat → Prop} {w w' : World} (h : Lo w.heap.size w w') : Rg X w w' := ⟨h.size,fun c hc _ => h.block c hc,h.os,h.output⟩
theorem Lo.rg {X : Nat → Prop} {B : Nat} {w w1 w2 : World} (h : Lo B w w1) (hr : Rg X w1 w2) (hx : ∀ c,X c → B ≤ c) (hB : B ≤ w1.heap.size) : Lo B w w2 :=
 ⟨Nat.le_trans h.size hr.size,fun c hc => (hr.block c (Nat.lt_of_lt_of_le hc hB) (fun e => Nat.lt_irrefl _ (Nat.lt_of_lt_of_le hc (hx c e)))).trans (h.block c hc),hr.os.trans h.os,hr.output.trans h.output⟩
theorem Rg.setCell {X : Nat → Prop} {w w1 : World} (h : Rg X w w1) {b j : Nat} {v : Value} (hb : X b) : Rg X w (w1.setCell ⟨b,j,none⟩ v) :=
 ⟨by rw [setCell_size]; exact h.size,fun c hc hx => (setCell_block _ _ _ _ _ (fun e => hx (by rw [e]; exact hb))).trans (h.block c hc hx),h.os,h.output⟩
structure StepsWalk (P : Program) (toS to1 toI tS : Nat) : Prop where
 one : ∀ (w : World) (s : ByteArray) (h c : Int) (va : Value) (V4 : Value → Nat → World → Prop),(∀ v lo w w',V4 v lo w → Hi lo w w' → V4 v lo w') →
  (∀ w',Lo w.heap.size w w' → Calls P toI #[va] w' fun e w'' => ∃ ad n cap,e = .returned (.slice ad n cap) ∧ Lo w'.heap.size w' w'' ∧ V4 (.slice ad n cap) w'.heap.size w'') →
  Calls P to1 #[.agg #[.string s,.int .i64 h,.int .i64 c,va]] w fun e w' => ∃ ad n cap,e = .returned (.agg #[.string s,.int .i64 h,.int .i64 c,.slice ad n cap]) ∧ Lo w.heap.size w w' ∧ V4 (.slice ad n cap) (w.heap.size + 3) w'
 nil : ∀ (a : Option Addr) (cap : Nat) (w : World),Calls P toS #[.slice a 0 cap] w fun e w' => e = .returned (.slice (some ⟨w.heap.size,0,none⟩) 0 0) ∧ Lo w.heap.size w w' ∧ w'.heap[w.heap.size]? = some (.cells #[] tS)
 all : ∀ (b off len cap : Nat) (w : World) (ids : Nat → ByteArray) (hs cs : Nat → Int) (aa : Nat → Value) (V4 : Nat → Value → Nat → Nat → World → Prop),b < w.heap.size → len ≤ 1099511627776 →
  (∀ j,j < len → w.cell? ⟨b,off + j * 4,none⟩ = some (.string (ids j))) → (∀ j,j < len → w.cell? ⟨b,off + j * 4 + 1,none⟩ = some (.int .i64 (hs j))) →
  (∀ j,j < len → w.cell? ⟨b,off + j * 4 + 2,none⟩ = some (.int .i64 (cs j))) → (∀ j,j < len → w.cell? ⟨b,off + j * 4 + 3,none⟩ = some (aa j)) →
  (∀ j v lo hi w w',V4 j v lo hi w → Hi lo w w' → V4 j v lo hi w') →
  (∀ j,j < len → ∀ w',Lo w.heap.size w w' → Calls P to1 #[.agg #[.string (ids j),.int .i64 (hs j),.int .i64 (cs j),aa j]] w' fun e w'' =>
    ∃ ad n cap,e = .returned (.agg #[.string (ids j),.int .i64 (hs j),.int .i64 (cs j),.slice ad n cap]) ∧ Lo w'.heap.size w' w'' ∧ V4 j (.slice ad n cap) w'.heap.size w''.heap.size w'') →
  Calls P toS #[.slice (some ⟨b,off,none⟩) len cap] w fun e w' => e = .returned (.slice (some ⟨w.heap.size,0,none⟩) len len) ∧ Lo w.heap.size w w' ∧
   ∃ (C : Array Value) (lo hi : Nat → Nat),w'.heap[w.heap.size]? = some (.cells C tS) ∧ C.size = len * 4 ∧ (∀ j,j < len → ∃ ad n cap,C[j * 4]? = some (.string (ids j)) ∧ C[j * 4 + 1]? = some (.int .i64 (hs j)) ∧ C[j * 4 + 2]? = some (.int .i64 (cs j)) ∧ C[j * 4 + 3]? = some (.slice ad n cap) ∧
     V4 j (.slice ad n cap) (lo j) (hi j) w' ∧ w.heap.size < lo j ∧ hi j ≤ w'.heap.size) ∧ ∀ i j,i < j → j < len → hi i ≤ lo j
section
variable {P : Program} {φ : Nat → Nat}
theorem agg4 {w : World} {K : Nat → Prop} {a b c d : Value} {x y z u : A} (h : Reps φ w K [.agg #[a,b,c,d]] [.agg [x,y,z,u]]) : Rep φ w K d u := by
 cases h with
 | cons _ _ _ _ ha _ =>
   generalize hq : (#[a,b,c,d] : Array Value) = arr at ha
   cases ha with
   | agg vs _ h' =>
     have e : vs = [a,b,c,d] := by
      have := congrArg Array.toList hq
      simpa using this.symm
     subst e
     cases h' with
     | cons _ _ _ _ _ h' => cases h' with
       | cons _ _ _ _ _ h' => cases h' with
         | cons _ _ _ _ _ h' => cases h' with
           | cons _ _ _ _ hd _ => exact hd
theorem toSteps_own {toS to1 gI tS : Nat} (h : StepsWalk P toS to1 (φ gI) tS) {xs : List stepE.ty} (hl : xs.length ≤ 1099511627776)
 (hI : ∀ j,j < xs.length → CallOk P φ gI [.sl 1 ((show List Int from (stAt xs j).2.2.2.1).map (ET.enc (.one (.int .i64))))] [.tok 0 1 ((show List Int from (stAt xs j).2.2.2.1).map (ET.enc (.one (.int .i64))))] [])
 {w : World} {K : Nat → Prop} {v : Value} (hr : Rep φ w K v (.sl 4 (xs.map stepE.enc))) (hK : ∀ b,K b → b < w.heap.size) (hG : Glob P K w) :
 Calls P toS #[v] w fun e w' => ∃ ad n cp,e = .returned (.slice ad n cp) ∧ Lo w.heap.size w w' ∧ StepsP φ tS xs (.slice ad n cp) w.heap.size w'.heap.size w' := by
 generalize hys : xs.map stepE.enc = ys at hr
 cases hr with
 | slE ad cap z =>
   obtain rfl : xs = [] := by cases xs with | nil => rfl | cons => simp at hys
   refine (h.nil ad cap w).mono fun e w' ⟨h1,h2,h3⟩ => ⟨_,_,_,h1,h2,?_⟩
   have hlt : w.heap.size < w'.heap.size := by
    rcases Nat.lt_or_ge w.heap.size w'.heap.size with h | h
    ·exact h
    ·rw [Array.getElem?_eq_none h] at h3; cases h3
   exact ⟨Nat.le_refl _,w.heap.size,#[],fun _ => none,fun _ => 0,fun _ => 0,fun _ => 0,fun _ => 0,rfl,Nat.le_refl _,hlt,h3,rfl,fun j hj => absurd hj (Nat.not_lt_zero _),fun i j _ hj => absurd hj (Nat.not_lt_zero _)⟩
 | sl b o cap z _ cvs hb hz hcap hh hcl =>
   subst hys
   rw [List.length_map]
   have keep : ∀ w',Lo w.heap.size w w' → (∀ b,K b → b < w'.heap.size) ∧ Glob P K w' := fun w' hw =>
    ⟨fun b hb => Nat.lt_of_lt_of_le (hK b hb) hw.size,hG.on (fun _ h => h) fun b hb => hw.block b (hK b hb)⟩
   refine (h.all b o xs.length cap w (fun j => ⟨(stAt xs j).1.toArray⟩) (fun j => (stAt xs j).2.1) (fun j => (stAt xs j).2.2.1)
    (fun j => if hj : j < xs.length then .slice (step_at hh hcl hj).choose (List.length (α := Int) (stAt xs j).2.2.2.1) (step_at hh hcl hj).choose_spec.choose else .bool false)
    (fun j v lo hi w => lo ≤ hi ∧ OwnP φ 1 ((show List Int from (stAt xs j).2.2.2.1).map (ET.enc (.one (.int .i64)))) v lo hi w) (hK _ hb) hl
    (fun j hj => (step_at hh hcl hj).choose_spec.choose_spec.1) (fun j hj => (step_at hh hcl hj).choose_spec.choose_spec.2.1) (fun j hj => (step_at hh hcl hj).choose_spec.choose_spec.2.2.1) (fun j hj => ?_)
    (fun j v lo hi w w' hv hw => ⟨hv.1,hv.2.keep (fun c c1 c2 => hw.2 c c1 (Nat.lt_of_lt_of_le c2 hv.2.1)) hw.1⟩) (fun j hj w' hw => ?_)).mono fun e w' hres => ?_
   ·rw [dif_pos hj]
    exact (step_at hh hcl hj).choose_spec.choose_spec.2.2.2.1
   ·rw [dif_pos hj]
    have hva := agg4 (show Reps φ w K [_] [.agg [.str (stAt xs j).1,.int .i64 (stAt xs j).2.1,.int .i64 (stAt xs j).2.2.1,.sl 1 ((show List Int from (stAt xs j).2.2.2.1).map (ET.enc (.one (.int .i64))))]] from (step_at hh hcl hj).choose_spec.choose_spec.2.2.2.2.2)
    refine (h.one w' _ _ _ _ (fun v lo w => ∃ hi,lo ≤ hi ∧ OwnP φ 1 ((show List Int from (stAt xs j).2.2.2.1).map (ET.enc (.one (.int .i64)))) v lo hi w) (fun v lo w1 w2 hv hw => ?_) (fun w2 hw2 => ?_)).mono fun e w'' hq => ?_
    ·obtain ⟨hi,v1,v2⟩ := hv
     exact ⟨hi,v1,v2.keep (fun c c1 c2 => hw.2 c c1 (Nat.lt_of_lt_of_le c2 v2.1)) hw.1⟩
    ·have hw3 : Lo w.heap.size w w2 := hw.trans (hw2.mono hw.size)
     refine (CallOk.own (hI j hj) (vs := [_]) (K := K) (.cons _ _ _ _ (hva.mono (fun b hb => hw3.block b (hK b hb)) fun _ h => h) .nil) (keep w2 hw3).1 (keep w2 hw3).2).mono fun e w4 hq => ?_
     obtain ⟨ad,n,cp,q1,q2,q3⟩ := hq
     exact ⟨ad,n,cp,q1,q2,_,q2.size,q3⟩
    ·obtain ⟨ad,n,cp,q1,q2,hi,q3,q4⟩ := hq
     exact ⟨ad,n,cp,q1,q2,q2.size,q4.weak (by omega) q4.1 (Nat.le_refl _)⟩
   ·obtain ⟨he,hlo,C,lo,hi,hC,hCs,hd,hch⟩ := hres
    have hlt : w.heap.size < w'.heap.size := by
     rcases Nat.lt_or_ge w.heap.size w'.heap.size with h | h
     ·exact h
     ·rw [Array.getElem?_eq_none h] at hC; cases hC
    refine ⟨_,_,_,he,hlo,Nat.le_refl _,w.heap.size,C,fun j => if hj : j < xs.length then (hd j hj).choose else none,fun j => if hj : j < xs.length then (hd j hj).choose_spec.choose else 0,fun j => if hj : j < xs.length then (hd j hj).choose_spec.choose_spec.choose else 0,lo,hi,rfl,Nat.le_refl _,hlt,hC,hCs,fun j hj => ?_,hch⟩
    have q := (hd j hj).choose_spec.choose_spec.choose_spec
    simp only [dif_pos hj]
    exact ⟨q.1,q.2.1,q.2.2.1,q.2.2.2.1,q.2.2.2.2.1.2,q.2.2.2.2.2.1,q.2.2.2.2.1.1,q.2.2.2.2.2.2⟩
theorem OwnRep.len {z : Nat} {xs : List A} {v : Value} {b : Option Nat} {K : Nat → Prop} {w : World} (h : OwnRep φ w K v z xs b) : ∃ a c,v = .slice a xs.length c := by
 cases h with
 | empty ad z => exact ⟨ad,0,rfl⟩
 | mk b o cap z xs vs hc h0 hzz hr hv hroom => exact ⟨_,_,rfl⟩
theorem CallOk.text {g : Nat} {as : List A} {t : List UInt8} (hc : CallOk P φ g as [.str t] []) {w : World} {K : Nat → Prop} {vs : List Value} (hr : Reps φ w K vs as) (hK : ∀ b,K b → b < w.heap.size) (hG : Glob P K w) :
 Calls P (φ g) vs.toArray w fun e w' => e = .returned (.string ⟨t.toArray⟩) ∧ Lo w.heap.size w w' := by
 refine (hc w K vs [] (argReps_of hr) List.nodup_nil (fun _ h => by cases h) hK hG).mono fun e w' ⟨v,he,hb⟩ => ?_
 subst he
 obtain ⟨rvs,K',rb,ob,hv,_,_,hrr,_⟩ := hb.rest
 refine ⟨?_,hb.grow,fun b hb' => hb.frame b hb' (by simp),hb.env.1,hb.env.2⟩
 cases hrr with
 | cons v0 _ _ vs0 _ _ h1 h2 =>
   cases h2
   cases h1 with
   | data _ h3 => cases h3; rw [hv]; rfl
theorem Rg.mono {X Y : Nat → Prop} {w w' : World} (h : Rg X w w') (hx : ∀ c,X c → Y c) : Rg Y w w' := ⟨h.size,fun c hc hy => h.block c hc fun e => hy (hx c e),h.os,h.output⟩
end
structure MarkStepsWalk (P : Program) (mkS mkT mkI tS : Nat) : Prop where
 run : ∀ (b len cap m0 : Nat) (w : World) (C : Array Value) (ad : Nat → Option Addr) (n cp lo hi : Nat → Nat) (V4 : Nat → World → Prop),
  len ≤ 1048576 → m0 ≤ 4611686018427387 → (∀ j,j < len → n j ≤ 1048576) →
  w.heap[b]? = some (.cells C tS) → C.size = len * 4 → (∀ j,j < len → C[j * 4 + 3]? = some (.slice (ad j) (n j) (cp j))) →
  (∀ j,j < len → b < lo j) → (∀ j,j < len → hi j ≤ w.heap.size) → (∀ i j,i < j → j < len → hi i ≤ lo j) → (∀ j,j < len → V4 j w) →
  (∀ j w w',j < len → V4 j w → (∀ c,lo j ≤ c → c < hi j → w'.heap[c]? = w.heap[c]?) → w.heap.size ≤ w'.heap.size → V4 j w') →
  (∀ (m : Nat) (w' : World),m ≤ 4611686018427387904 → w.heap.size ≤ w'.heap.size → Rg (fun c => c = b ∨ ∃ j,j < len ∧ lo j ≤ c ∧ c < hi j) w w' → Calls P mkT #[.int .i64 m] w' fun e w'' => ∃ t,e = .returned (.string t) ∧ Lo w'.heap.size w' w'') →
  (∀ j,j < len → ∀ (m : Nat) (w' : World),m ≤ 4611686018427387904 → Rg (fun c => c = b ∨ ∃ j,j < len ∧ lo j ≤ c ∧ c < hi j) w w' → V4 j w' → Calls P mkI #[.slice (ad j) (n j) (cp j),.int .i64 m] w' fun e w'' =>
    e = .returned (.int .i64 ((m + n j : Nat) : Int)) ∧ Rg (fun c => lo j ≤ c ∧ c < hi j) w' w'') →
  Calls P mkS #[.slice (some ⟨b,0,none⟩) len cap,.int .i64 m0] w fun e w' => ∃ m : Nat,e = .returned (.int .i64 m) ∧ m ≤ m0 + len * 1048579 ∧ Rg (fun c => c = b ∨ ∃ j,j < len ∧ lo j ≤ c ∧ c < hi j) w w'
section
variable {P : Program} {φ : Nat → Nat}
theorem markSteps_ok {mkS gT gI tS : Nat} (h : MarkStepsWalk P mkS (φ gT) (φ gI) tS) {xs : List stepE.ty} (hl : xs.length ≤ 1048576) (hn : ∀ j,j < xs.length → List.length (α := Int) (stAt xs j).2.2.2.1 ≤ 1048576)
 (hT : ∀ m : Nat,m ≤ 4611686018427387904 → ∃ t,CallOk P φ gT [.int .i64 m] [.str t] [])
 (hI : ∀ (ns : List Int) (m : Nat),ns.length ≤ 1048576 → m ≤ 4611686018427387904 → ∃ ys : List Int,CallOk P φ gI [.ios 1 (ns.map (ET.enc (.one (.int .i64)))),.int .i64 m] [.int .i64 ((m + ns.length : Nat) : Int)] [.ios 1 (ys.map (ET.enc (.one (.int .i64))))])
 {w : World} {K : Nat → Prop} {v : Value} {lo hi m0 : Nat} (hv : StepsP φ tS xs v lo hi w) (hm : m0 ≤ 4611686018427387)
 (hK : ∀ b,K b → b < w.heap.size) (hKx : ∀ b,lo ≤ b → b < hi → ¬ K b) (hG : Glob P K w) :
 Calls P mkS #[v,.int .i64 m0] w fun e w' => ∃ m : Nat,e = .returned (.int .i64 m) ∧ m ≤ m0 + xs.length * 1048579 ∧ Rg (fun c => lo ≤ c ∧ c < hi) w w' := by
 obtain ⟨h1,b,C,ad,n,cp,los,his,rfl,h3,h4,h5,h6,h7,h8⟩ := hv
 have hX : ∀ c,(c = b ∨ ∃ j,j < xs.length ∧ los j ≤ c ∧ c < his j) → lo ≤ c ∧ c < hi := fun c hc => by
  rcases hc with rfl | ⟨j,hj,c1,c2⟩
  ·exact ⟨h3,h4⟩
  ·obtain ⟨_,_,_,_,_,a5,a6,a7⟩ := h7 j hj
   omega
 have keep : ∀ w',Rg (fun c => c = b ∨ ∃ j,j < xs.length ∧ los j ≤ c ∧ c < his j) w w' → (∀ b,K b → b < w'.heap.size) ∧ Glob P K w' := fun w' hw =>
  ⟨fun b hb => Nat.lt_of_lt_of_le (hK b hb) hw.size,hG.on (fun _ h => h) fun c hc => hw.block c (hK c hc) fun hx => hKx c (hX c hx).1 (hX c hx).2 hc⟩
 have hlen : ∀ j,j < xs.length → n j = List.length (α := Int) (stAt xs j).2.2.2.1 := fun j hj => by
  obtain ⟨_,_,_,_,a4,_⟩ := h7 j hj
  obtain ⟨_,_,bb,q,_⟩ := a4
  obtain ⟨a',c',e⟩ := q.len
  injection e with _ e2 _
  rw [List.length_map] at e2
  exact e2
 refine (h.run b xs.length xs.length m0 w C ad n cp los his (fun j w => OwnP φ 1 ((show List Int from (stAt xs j).2.2.2.1).map (ET.enc (.one (.int .i64)))) (.slice (ad j) (n j) (cp j)) (los j) (his j) w) hl hm (fun j hj => by rw [hlen j hj]; exact hn j hj) h5 h6
  (fun j hj => (h7 j hj).2.2.2.1) (fun j hj => (h7 j hj).2.2.2.2.2.1) (fun j hj => Nat.le_trans (h7 j hj).2.2.2.2.2.2.2 h1) h8 (fun j hj => (h7 j hj).2.2.2.2.1) (fun j w w' _ hv hs hz => hv.keep hs hz) (fun m w' hm' _ hw => ?_) (fun j hj m w' hm' hw hv => ?_)).mono fun e w' hq => ?_
 ·obtain ⟨t,ht⟩ := hT m hm'
  exact (CallOk.text ht (vs := [_]) (K := K) (.cons _ _ _ _ (.int _ _) .nil) (keep w' hw).1 (keep w' hw).2).mono fun e w'' hq => ⟨_,hq⟩
 ·obtain ⟨ys,hc⟩ := hI _ m (hn j hj) hm'
  obtain ⟨_,_,_,_,_,a5,a6,a7⟩ := h7 j hj
  refine (CallOk.mark hc (all_plain (t := .one (.int .i64)) rfl ys) hv (keep w' hw).1 (fun c c1 c2 => hKx c (by omega) (by omega)) (keep w' hw).2).mono fun e w'' hq => ?_
  rw [hlen j hj]
  exact ⟨hq.1,hq.2.1⟩
 ·obtain ⟨m,q1,q2,q3⟩ := hq
  exact ⟨m,q1,q2,q3.mono hX⟩
end
structure ToShopWalk (P : Program) (toX f0 f1 f3 f4 f6 f7 : Nat) : Prop where
 run : ∀ (w : World) (v0 : Value) (v1 : Value) (v3 : Value) (v4 : Value) (v6 : Value) (v7 : Value) (v2 : Int) (v5 : Int) (Q : Nat → Value → Nat → Nat → World → Prop)
  (hP : ∀ x v lo hi w w',Q x v lo hi w → hi ≤ w.heap.size → (∀ c,lo ≤ c → c < hi → w'.heap[c]? = w.heap[c]?) → w.heap.size ≤ w'.heap.size → Q x v lo hi w')
  (h0 : ∀ w',Lo w.heap.size w w' → Calls P f0 #[v0] w' fun e w'' => ∃ ad n cp,e = .returned (.slice ad n cp) ∧ Lo w'.heap.size w' w'' ∧ Q 0 (.slice ad n cp) w'.heap.size w''.heap.size w'')
  (h1 : ∀ w',Lo w.heap.size w w' → Calls P f1 #[v1] w' fun e w'' => ∃ ad n cp,e = .returned (.slice ad n cp) ∧ Lo w'.heap.size w' w'' ∧ Q 1 (.slice ad n cp) w'.heap.size w''.heap.size w'')
  (h3 : ∀ w',Lo w.heap.size w w' → Calls P f3 #[v3] w' fun e w'' => ∃ ad n cp,e = .returned (.slice ad n cp) ∧ Lo w'.heap.size w' w'' ∧ Q 3 (.slice ad n cp) w'.heap.size w''.heap.size w'')
  (h4 : ∀ w',Lo w.heap.size w w' → Calls P f4 #[v4] w' fun e w'' => ∃ ad n cp,e = .returned (.slice ad n cp) ∧ Lo w'.heap.size w' w'' ∧ Q 4 (.slice ad n cp) w'.heap.size w''.heap.size w'')
  (h6 : ∀ w',Lo w.heap.size w w' → Calls P f6 #[v6] w' fun e w'' => ∃ ad n cp,e = .returned (.slice ad n cp) ∧ Lo w'.heap.size w' w'' ∧ Q 6 (.slice ad n cp) w'.heap.size w''.heap.size w'')
  (h7 : ∀ w',Lo w.heap.size w w' → Calls P f7 #[v7] w' fun e w'' => ∃ ad n cp,e = .returned (.slice ad n cp) ∧ Lo w'.heap.size w' w'' ∧ Q 7 (.slice ad n cp) w'.heap.size w''.heap.size w''),Calls P toX #[.agg #[v0,v1,.int .i64 v2,v3,v4,.int .i64 v5,v6,v7]] w fun e w' => ∃ ad0 n0 cp0 lo0 hi0 ad1 n1 cp1 lo1 hi1 ad3 n3 cp3 lo3 hi3 ad4 n4 cp4 lo4 hi4 ad6 n6 cp6 lo6 hi6 ad7 n7 cp7 lo7 hi7,e = .returned (.agg #[.slice ad0 n0 cp0,.slice ad1 n1 cp1,.int .i64 v2,.slice ad3 n3 cp3,.slice ad4 n4 cp4,.int .i64 v5,.slice ad6 n6 cp6,.slice ad7 n7 cp7]) ∧ Lo w.heap.size w w' ∧ Q 0 (.slice ad0 n0 cp0) lo0 hi0 w' ∧ Q 1 (.slice ad1 n1 cp1) lo1 hi1 w' ∧ Q 3 (.slice ad3 n3 cp3) lo3 hi3 w' ∧ Q 4 (.slice ad4 n4 cp4) lo4 hi4 w' ∧ Q 6 (.slice ad6 n6 cp6) lo6 hi6 w' ∧ Q 7 (.slice ad7 n7 cp7) lo7 hi7 w' ∧ w.heap.size + 3 ≤ lo0 ∧ lo0 ≤ hi0 ∧ hi0 ≤ lo1 ∧ lo1 ≤ hi1 ∧ hi1 ≤ lo3 ∧ lo3 ≤ hi3 ∧ hi3 ≤ lo4 ∧ lo4 ≤ hi4 ∧ hi4 ≤ lo6 ∧ lo6 ≤ hi6 ∧ hi6 ≤ lo7 ∧ lo7 ≤ hi7 ∧ hi7 ≤ w'.heap.size
structure MarkShopWalk (P : Program) (mkX f0 f1 f3 f4 f6 f7 : Nat) : Prop where
 run : ∀ (w : World) (v0 : Value) (v1 : Value) (v3 : Value) (v4 : Value) (v6 : Value) (v7 : Value) (v2 : Int) (v5 : Int) (m0 : Nat) (lo hi : Nat → Nat)
  (hm : m0 ≤ 1000) (hc : lo 0 ≤ hi 0 ∧ hi 0 ≤ lo 1 ∧ lo 1 ≤ hi 1 ∧ hi 1 ≤ lo 3 ∧ lo 3 ≤ hi 3 ∧ hi 3 ≤ lo 4 ∧ lo 4 ≤ hi 4 ∧ hi 4 ≤ lo 6 ∧ lo 6 ≤ hi 6 ∧ hi 6 ≤ lo 7 ∧ lo 7 ≤ hi 7 ∧ hi 7 ≤ w.heap.size)
  (h0 : ∀ (m : Nat) (w' : World),m ≤ 1125899906842624 → Rg (fun c => lo 0 ≤ c ∧ c < hi 7) w w' → (∀ c,lo 0 ≤ c → c < hi 0 → w'.heap[c]? = w.heap[c]?) → Calls P f0 #[v0,.int .i64 m] w' fun e w'' => ∃ m' : Nat,e = .returned (.int .i64 m') ∧ m' ≤ m + 4398046511104 ∧ Rg (fun c => lo 0 ≤ c ∧ c < hi 0) w' w'')
  (h1 : ∀ (m : Nat) (w' : World),m ≤ 1125899906842624 → Rg (fun c => lo 0 ≤ c ∧ c < hi 7) w w' → (∀ c,lo 1 ≤ c → c < hi 1 → w'.heap[c]? = w.heap[c]?) → Calls P f1 #[v1,.int .i64 m] w' fun e w'' => ∃ m' : Nat,e = .returned (.int .i64 m') ∧ m' ≤ m + 4398046511104 ∧ Rg (fun c => lo 1 ≤ c ∧ c < hi 1) w' w'')
  (h3 : ∀ (m : Nat) (w' : World),m ≤ 1125899906842624 → Rg (fun c => lo 0 ≤ c ∧ c < hi 7) w w' → (∀ c,lo 3 ≤ c → c < hi 3 → w'.heap[c]? = w.heap[c]?) → Calls P f3 #[v3,.int .i64 m] w' fun e w'' => ∃ m' : Nat,e = .returned (.int .i64 m') ∧ m' ≤ m + 4398046511104 ∧ Rg (fun c => lo 3 ≤ c ∧ c < hi 3) w' w'')
  (h4 : ∀ (m : Nat) (w' : World),m ≤ 1125899906842624 → Rg (fun c => lo 0 ≤ c ∧ c < hi 7) w w' → (∀ c,lo 4 ≤ c → c < hi 4 → w'.heap[c]? = w.heap[c]?) → Calls P f4 #[v4,.int .i64 m] w' fun e w'' => ∃ m' : Nat,e = .returned (.int .i64 m') ∧ m' ≤ m + 4398046511104 ∧ Rg (fun c => lo 4 ≤ c ∧ c < hi 4) w' w'')
  (h6 : ∀ (m : Nat) (w' : World),m ≤ 1125899906842624 → Rg (fun c => lo 0 ≤ c ∧ c < hi 7) w w' → (∀ c,lo 6 ≤ c → c < hi 6 → w'.heap[c]? = w.heap[c]?) → Calls P f6 #[v6,.int .i64 m] w' fun e w'' => ∃ m' : Nat,e = .returned (.int .i64 m') ∧ m' ≤ m + 4398046511104 ∧ Rg (fun c => lo 6 ≤ c ∧ c < hi 6) w' w'')
  (h7 : ∀ (m : Nat) (w' : World),m ≤ 1125899906842624 → Rg (fun c => lo 0 ≤ c ∧ c < hi 7) w w' → (∀ c,lo 7 ≤ c → c < hi 7 → w'.heap[c]? = w.heap[c]?) → Calls P f7 #[v7,.int .i64 m] w' fun e w'' => ∃ m' : Nat,e = .returned (.int .i64 m') ∧ m' ≤ m + 4398046511104 ∧ Rg (fun c => lo 7 ≤ c ∧ c < hi 7) w' w''),Calls P mkX #[.agg #[v0,v1,.int .i64 v2,v3,v4,.int .i64 v5,v6,v7],.int .i64 m0] w fun e w' => ∃ m : Nat,e = .returned (.int .i64 m) ∧ m ≤ 1125899906842624 ∧ Rg (fun c => lo 0 ≤ c ∧ c < hi 7) w w'
structure ShopLawWalk (P : Program) (law sz sp toX im ep es mkX mp hp : Nat) : Prop where
 en : Entered P law
 run : ∀ (w : World) (v0 : Value) (v1 : Value) (v3 : Value) (v4 : Value) (v6 : Value) (v7 : Value) (v2 : Int) (v5 : Int) (n c0 : Int) (M : Nat) (T : Value → Nat → Nat → World → Prop) (W0 : Value → Nat → World → Prop) (G G2 : Value → Nat → Nat → World → Prop)
  (kT : ∀ v lo hi w w',T v lo hi w → (∀ c,lo ≤ c → c < hi → w'.heap[c]? = w.heap[c]?) → w.heap.size ≤ w'.heap.size → T v lo hi w')
  (kG : ∀ v lo hi w w',G v lo hi w → (∀ c,lo ≤ c → c < hi → w'.heap[c]? = w.heap[c]?) → w.heap.size ≤ w'.heap.size → G v lo hi w')
  (kG2 : ∀ v lo hi w w',G2 v lo hi w → (∀ c,lo ≤ c → c < hi → w'.heap[c]? = w.heap[c]?) → w.heap.size ≤ w'.heap.size → G2 v lo hi w')
  (kW : ∀ v hi w w',W0 v hi w → (∀ c,c < hi → w'.heap[c]? = w.heap[c]?) → w.heap.size ≤ w'.heap.size → W0 v hi w')
  (hSz : ∀ w',Lo w.heap.size w w' → Calls P sz #[.agg #[v0,v1,.int .i64 v2,v3,v4,.int .i64 v5,v6,v7],.int .i64 1048576] w' fun e w'' => e = .returned (.int .i64 n) ∧ Lo w'.heap.size w' w'')
  (hTo : ∀ w',Lo w.heap.size w w' → Calls P toX #[.agg #[v0,v1,.int .i64 v2,v3,v4,.int .i64 v5,v6,v7]] w' fun e w'' => ∃ (ad : Nat → Option Addr) (nn cp : Nat → Nat),e = .returned (.agg #[.slice (ad 0) (nn 0) (cp 0),.slice (ad 1) (nn 1) (cp 1),.int .i64 v2,.slice (ad 3) (nn 3) (cp 3),.slice (ad 4) (nn 4) (cp 4),.int .i64 v5,.slice (ad 6) (nn 6) (cp 6),.slice (ad 7) (nn 7) (cp 7)]) ∧ Lo w'.heap.size w' w'' ∧ T (.agg #[.slice (ad 0) (nn 0) (cp 0),.slice (ad 1) (nn 1) (cp 1),.int .i64 v2,.slice (ad 3) (nn 3) (cp 3),.slice (ad 4) (nn 4) (cp 4),.int .i64 v5,.slice (ad 6) (nn 6) (cp 6),.slice (ad 7) (nn 7) (cp 7)]) w'.heap.size w''.heap.size w'')
  (hSp : ∀ v lo hi,∀ w',Lo w.heap.size w w' → T v lo hi w' → Calls P sp #[v] w' fun e w'' => ∃ ad m cp,e = .returned (.tuple #[.slice ad m cp,.int .i64 c0]) ∧ Lo w'.heap.size w' w'' ∧ W0 (.slice ad m cp) w''.heap.size w'')
  (hIm : ∀ v lo hi,∀ w',Lo w.heap.size w w' → T v lo hi w' → Calls P im #[v] w' fun e w'' => ∃ ad m cp,e = .returned (.tuple #[.slice ad m cp,.int .i64 c0]) ∧ Lo w'.heap.size w' w'' ∧ G (.slice ad m cp) w'.heap.size w''.heap.size w'')
  (hEp : ∀ g lo hi p h0,∀ w',Lo w.heap.size w w' → G g lo hi w' → W0 p h0 w' → Calls P ep #[g,p] w' fun e w'' => e = .returned (.bool true) ∧ Lo w'.heap.size w' w'')
  (hEs : ∀ v lo hi v2 lo2 hi2,∀ w',Lo w.heap.size w w' → T v lo hi w' → T v2 lo2 hi2 w' → Calls P es #[v,v2] w' fun e w'' => e = .returned (.bool true) ∧ Lo w'.heap.size w' w'')
  (hMk : ∀ v lo hi,∀ w',Lo w.heap.size w w' → T v lo hi w' → Calls P mkX #[v,.int .i64 1] w' fun e w'' => ∃ m : Nat,e = .returned (.int .i64 m) ∧ Rg (fun c => lo ≤ c ∧ c < hi) w' w'')
  (hMp : ∀ g lo hi,∀ w',Lo w.heap.size w w' → G g lo hi w' → Calls P mp #[g,.int .i64 1] w' fun e w'' => e = .returned (.int .i64 M) ∧ Rg (fun c => lo ≤ c ∧ c < hi) w' w'' ∧ G2 g lo hi w'')
  (hHp : ∀ g lo hi,∀ w',Lo w.heap.size w w' → G2 g lo hi w' → Calls P hp #[g,.int .i64 1] w' fun e w'' => e = .returned (.int .i64 M) ∧ Lo w'.heap.size w' w''),Calls P law #[.agg #[v0,v1,.int .i64 v2,v3,v4,.int .i64 v5,v6,v7]] w fun e w' => e = .returned (.bool true) ∧ Lo w.heap.size w w'
section
variable {P : Program} {φ : Nat → Nat}
theorem agg8 {w : World} {K : Nat → Prop} {v : Value} {x0 x1 x3 x4 x6 x7 : A} {n2 n5 : Int} (h : Rep φ w K v (.agg [x0,x1,.int .i64 n2,x3,x4,.int .i64 n5,x6,x7])) :
 ∃ v0 v1 v3 v4 v6 v7,v = .agg #[v0,v1,.int .i64 n2,v3,v4,.int .i64 n5,v6,v7] ∧ Rep φ w K v0 x0 ∧ Rep φ w K v1 x1 ∧ Rep φ w K v3 x3 ∧ Rep φ w K v4 x4 ∧ Rep φ w K v6 x6 ∧ Rep φ w K v7 x7 := by
 cases h with
 | agg vs _ h =>
 cases h with
 | cons v0 _ _ _ h0 h =>
 cases h with
 | cons v1 _ _ _ h1 h =>
 cases h with
 | cons v2 _ _ _ h2 h =>
 cases h with
 | cons v3 _ _ _ h3 h =>
 cases h with
 | cons v4 _ _ _ h4 h =>
 cases h with
 | cons v5 _ _ _ h5 h =>
 cases h with
 | cons v6 _ _ _ h6 h =>
 cases h with
 | cons v7 _ _ _ h7 h =>
 cases h
 cases h2
 cases h5
 exact ⟨v0,v1,v3,v4,v6,v7,rfl,h0,h1,h3,h4,h6,h7⟩
def shopQ (φ : Nat → Nat) (tS : TypeId) (x : shopE.ty) : Nat → Value → Nat → Nat → World → Prop
 | 0,v,lo,hi,w => OwnP φ 6 ((show List arcE.ty from x.1).map arcE.enc) v lo hi w
 | 1,v,lo,hi,w => OwnP φ 4 ((show List neckE.ty from x.2.1).map neckE.enc) v lo hi w
 | 3,v,lo,hi,w => StepsP φ tS x.2.2.2.1 v lo hi w
 | 4,v,lo,hi,w => OwnP φ 1 ((show List Int from x.2.2.2.2.1).map i64E.enc) v lo hi w
 | 6,v,lo,hi,w => OwnP φ 5 ((show List paperE.ty from x.2.2.2.2.2.2.1).map paperE.enc) v lo hi w
 | 7,v,lo,hi,w => OwnP φ 4 ((show List entryE.ty from x.2.2.2.2.2.2.2.1).map entryE.enc) v lo hi w
 | _,_,_,_,_ => True
theorem toShop_own {toX toS to1 g0 g1 gI g6 g7 tS : Nat} (h : ToShopWalk P toX (φ g0) (φ g1) toS (φ gI) (φ g6) (φ g7)) (hS : StepsWalk P toS to1 (φ gI) tS) {x : shopE.ty} (hl : List.length (α := stepE.ty) x.2.2.2.1 ≤ 1099511627776)
 (c0 : CallOk P φ g0 [.sl 6 ((show List arcE.ty from x.1).map arcE.enc)] [.tok 0 6 ((show List arcE.ty from x.1).map arcE.enc)] [])
 (c1 : CallOk P φ g1 [.sl 4 ((show List neckE.ty from x.2.1).map neckE.enc)] [.tok 0 4 ((show List neckE.ty from x.2.1).map neckE.enc)] [])
 (c3 : ∀ j,j < List.length (α := stepE.ty) x.2.2.2.1 → CallOk P φ gI [.sl 1 ((show List Int from (stAt x.2.2.2.1 j).2.2.2.1).map (ET.enc (.one (.int .i64))))] [.tok 0 1 ((show List Int from (stAt x.2.2.2.1 j).2.2.2.1).map (ET.enc (.one (.int .i64))))] [])
 (c4 : CallOk P φ gI [.sl 1 ((show List Int from x.2.2.2.2.1).map i64E.enc)] [.tok 0 1 ((show List Int from x.2.2.2.2.1).map i64E.enc)] [])
 (c6 : CallOk P φ g6 [.sl 5 ((show List paperE.ty from x.2.2.2.2.2.2.1).map paperE.enc)] [.tok 0 5 ((show List paperE.ty from x.2.2.2.2.2.2.1).map paperE.enc)] [])
 (c7 : CallOk P φ g7 [.sl 4 ((show List entryE.ty from x.2.2.2.2.2.2.2.1).map entryE.enc)] [.tok 0 4 ((show List entryE.ty from x.2.2.2.2.2.2.2.1).map entryE.enc)] [])
 {w : World} {K : Nat → Prop} {v0 v1 v3 v4 v6 v7 : Value} (r0 : Rep φ w K v0 (.sl 6 ((show List arcE.ty from x.1).map arcE.enc))) (r1 : Rep φ w K v1 (.sl 4 ((show List neckE.ty from x.2.1).map neckE.enc))) (r3 : Rep φ w K v3 (.sl 4 ((show List stepE.ty from x.2.2.2.1).map stepE.enc)))
 (r4 : Rep φ w K v4 (.sl 1 ((show List Int from x.2.2.2.2.1).map i64E.enc))) (r6 : Rep φ w K v6 (.sl 5 ((show List paperE.ty from x.2.2.2.2.2.2.1).map paperE.enc))) (r7 : Rep φ w K v7 (.sl 4 ((show List entryE.ty from x.2.2.2.2.2.2.2.1).map entryE.enc)))
 (hK : ∀ b,K b → b < w.heap.size) (hG : Glob P K w) :
 Calls P toX #[.agg #[v0,v1,.int .i64 x.2.2.1,v3,v4,.int .i64 x.2.2.2.2.2.1,v6,v7]] w fun e w' => ∃ (ad : Nat → Option Addr) (nn cp : Nat → Nat),e = .returned (.agg #[.slice (ad 0) (nn 0) (cp 0),.slice (ad 1) (nn 1) (cp 1),.int .i64 x.2.2.1,.slice (ad 3) (nn 3) (cp 3),.slice (ad 4) (nn 4) (cp 4),.int .i64 x.2.2.2.2.2.1,.slice (ad 6) (nn 6) (cp 6),.slice (ad 7) (nn 7) (cp 7)]) ∧
  Lo w.heap.size w w' ∧ ∃ l h,ShopP φ tS x (fun j => .slice (ad j) (nn j) (cp j)) l h w' ∧ w.heap.size ≤ l 0 ∧ h 7 ≤ w'.heap.size := by
 have keep : ∀ w',Lo w.heap.size w w' → (∀ b,K b → b < w'.heap.size) ∧ Glob P K w' := fun w' hw =>
  ⟨fun b hb => Nat.lt_of_lt_of_le (hK b hb) hw.size,hG.on (fun _ h => h) fun b hb => hw.block b (hK b hb)⟩
 have mv : ∀ {v : Value} {a : A} (w' : World),Lo w.heap.size w w' → Rep φ w K v a → Reps φ w' K [v] [a] := fun w' hw hr => .cons _ _ _ _ (hr.mono (fun b hb => hw.block b (hK b hb)) fun _ h => h) .nil
 refine (h.run w v0 v1 v3 v4 v6 v7 x.2.2.1 x.2.2.2.2.2.1 (shopQ φ tS x) (fun y v lo hi w w' hq _ hs hz => ?_) (fun w' hw => CallOk.own c0 (mv w' hw r0) (keep w' hw).1 (keep w' hw).2) (fun w' hw => CallOk.own c1 (mv w' hw r1) (keep w' hw).1 (keep w' hw).2)
  (fun w' hw => toSteps_own hS hl c3 (r3.mono (fun b hb => hw.block b (hK b hb)) fun _ h => h) (keep w' hw).1 (keep w' hw).2) (fun w' hw => CallOk.own c4 (mv w' hw r4) (keep w' hw).1 (keep w' hw).2) (fun w' hw => CallOk.own c6 (mv w' hw r6) (keep w' hw).1 (keep w' hw).2)
  (fun w' hw => CallOk.own c7 (mv w' hw r7) (keep w' hw).1 (keep w' hw).2)).mono fun e w' hq => ?_
 ·rcases y with _ | _ | _ | _ | _ | _ | _ | _ | y <;> first
   | exact OwnP.keep hq hs hz
   | exact StepsP.keep hq hs hz
   | exact trivial
 ·obtain ⟨ad0,n0,cp0,lo0,hi0,ad1,n1,cp1,lo1,hi1,ad3,n3,cp3,lo3,hi3,ad4,n4,cp4,lo4,hi4,ad6,n6,cp6,lo6,hi6,ad7,n7,cp7,lo7,hi7,he,hlo,q0,q1,q3,q4,q6,q7,hz,hch⟩ := hq
  refine ⟨fun j => match j with | 0 => ad0 | 1 => ad1 | 3 => ad3 | 4 => ad4 | 6 => ad6 | _ => ad7,fun j => match j with | 0 => n0 | 1 => n1 | 3 => n3 | 4 => n4 | 6 => n6 | _ => n7,fun j => match j with | 0 => cp0 | 1 => cp1 | 3 => cp3 | 4 => cp4 | 6 => cp6 | _ => cp7,he,hlo,
   fun j => match j with | 0 => lo0 | 1 => lo1 | 3 => lo3 | 4 => lo4 | 6 => lo6 | _ => lo7,fun j => match j with | 0 => hi0 | 1 => hi1 | 3 => hi3 | 4 => hi4 | 6 => hi6 | _ => hi7,⟨q0,q1,q3,q4,q6,q7,?_⟩,?_,?_⟩
  ·simp only
   omega
  ·show w.heap.size ≤ lo0
   omega
  ·show hi7 ≤ w'.heap.size
   omega
theorem markShop_ok {mkX mkS m0 m1 gT mI m6 m7 tS : Nat} (h : MarkShopWalk P mkX (φ m0) (φ m1) mkS (φ mI) (φ m6) (φ m7)) (hS : MarkStepsWalk P mkS (φ gT) (φ mI) tS) {x : shopE.ty} (hl : List.length (α := stepE.ty) x.2.2.2.1 ≤ 1048576) (hn : ∀ j,j < List.length (α := stepE.ty) x.2.2.2.1 → List.length (α := Int) (stAt x.2.2.2.1 j).2.2.2.1 ≤ 1048576)
 (c0 : ∀ m : Nat,m ≤ 1125899906842624 → ∃ (m' : Nat) (ys : List A),m' ≤ m + 4398046511104 ∧ ys.all A.plain = true ∧ CallOk P φ m0 [.ios 6 ((show List arcE.ty from x.1).map arcE.enc),.int .i64 m] [.int .i64 (m' : Nat)] [.ios 6 ys] )
 (c1 : ∀ m : Nat,m ≤ 1125899906842624 → ∃ (m' : Nat) (ys : List A),m' ≤ m + 4398046511104 ∧ ys.all A.plain = true ∧ CallOk P φ m1 [.ios 4 ((show List neckE.ty from x.2.1).map neckE.enc),.int .i64 m] [.int .i64 (m' : Nat)] [.ios 4 ys] )
 (c4 : ∀ m : Nat,m ≤ 1125899906842624 → ∃ (m' : Nat) (ys : List A),m' ≤ m + 4398046511104 ∧ ys.all A.plain = true ∧ CallOk P φ mI [.ios 1 ((show List Int from x.2.2.2.2.1).map i64E.enc),.int .i64 m] [.int .i64 (m' : Nat)] [.ios 1 ys] )
 (c6 : ∀ m : Nat,m ≤ 1125899906842624 → ∃ (m' : Nat) (ys : List A),m' ≤ m + 4398046511104 ∧ ys.all A.plain = true ∧ CallOk P φ m6 [.ios 5 ((show List paperE.ty from x.2.2.2.2.2.2.1).map paperE.enc),.int .i64 m] [.int .i64 (m' : Nat)] [.ios 5 ys] )
 (c7 : ∀ m : Nat,m ≤ 1125899906842624 → ∃ (m' : Nat) (ys : List A),m' ≤ m + 4398046511104 ∧ ys.all A.plain = true ∧ CallOk P φ m7 [.ios 4 ((show List entryE.ty from x.2.2.2.2.2.2.2.1).map entryE.enc),.int .i64 m] [.int .i64 (m' : Nat)] [.ios 4 ys] )
 (cT : ∀ m : Nat,m ≤ 4611686018427387904 → ∃ t,CallOk P φ gT [.int .i64 m] [.str t] [])
 (cI : ∀ (ns : List Int) (m : Nat),ns.length ≤ 1048576 → m ≤ 4611686018427387904 → ∃ ys : List Int,CallOk P φ mI [.ios 1 (ns.map (ET.enc (.one (.int .i64)))),.int .i64 m] [.int .i64 ((m + ns.length : Nat) : Int)] [.ios 1 (ys.map (ET.enc (.one (.int .i64))))])
 {w : World} {K : Nat → Prop} {d : Nat → Value} {l hh : Nat → Nat} (H : ShopP φ tS x d l hh w) (hK : ∀ b,K b → b < w.heap.size) (hKx : ∀ b,l 0 ≤ b → b < hh 7 → ¬ K b) (hG : Glob P K w) :
 Calls P mkX #[shopV x d,.int .i64 1] w fun e w' => ∃ m : Nat,e = .returned (.int .i64 m) ∧ Rg (fun c => l 0 ≤ c ∧ c < hh 7) w w' := by
 have ch := H.ch
 have keep : ∀ w',Rg (fun c => l 0 ≤ c ∧ c < hh 7) w w' → (∀ b,K b → b < w'.heap.size) ∧ Glob P K w' := fun w' hw =>
  ⟨fun b hb => Nat.lt_of_lt_of_le (hK b hb) hw.size,hG.on (fun _ h => h) fun c hc => hw.block c (hK c hc) fun hx => hKx c hx.1 hx.2 hc⟩
 have one : ∀ {g z j : Nat} {xs : List A},(∀ m : Nat,m ≤ 1125899906842624 → ∃ (m' : Nat) (ys : List A),m' ≤ m + 4398046511104 ∧ ys.all A.plain = true ∧ CallOk P φ g [.ios z xs,.int .i64 m] [.int .i64 (m' : Nat)] [.ios z ys]) → OwnP φ z xs (d j) (l j) (hh j) w → l 0 ≤ l j → hh j ≤ hh 7 →
  ∀ (m : Nat) (w' : World),m ≤ 1125899906842624 → Rg (fun c => l 0 ≤ c ∧ c < hh 7) w w' → (∀ c,l j ≤ c → c < hh j → w'.heap[c]? = w.heap[c]?) → Calls P (φ g) #[d j,.int .i64 m] w' fun e w'' => ∃ m' : Nat,e = .returned (.int .i64 m') ∧ m' ≤ m + 4398046511104 ∧ Rg (fun c => l j ≤ c ∧ c < hh j) w' w'' :=
  fun hc hp hl1 hl2 m w' hm hw hs => by
   obtain ⟨m',ys,b1,b2,b3⟩ := hc m hm
   refine (CallOk.mark b3 b2 (hp.keep hs hw.size) (keep w' hw).1 (fun c c1 c2 => hKx c (by omega) (by omega)) (keep w' hw).2).mono fun e w'' hq => ?_
   exact ⟨m',hq.1,b1,hq.2.1⟩
 refine (h.run w (d 0) (d 1) (d 3) (d 4) (d 6) (d 7) x.2.2.1 x.2.2.2.2.2.1 1 l hh (by omega) (by have := H.p7.1; omega) (one c0 H.p0 (by omega) (by omega)) (one c1 H.p1 (by omega) (by omega)) (fun m w' hm hw hs => ?_) (one c4 H.p4 (by omega) (by omega)) (one c6 H.p6 (by omega) (by omega)) (one c7 H.p7 (by omega) (by omega))).mono fun e w' hq => ?_
 ·refine (markSteps_ok hS hl hn cT cI (H.p3.keep hs hw.size) (by omega) (keep w' hw).1 (fun c c1 c2 => hKx c (by omega) (by omega)) (keep w' hw).2).mono fun e w'' hq => ?_
  obtain ⟨m',q1,q2,q3⟩ := hq
  have : List.length (α := stepE.ty) x.2.2.2.1 * 1048579 ≤ 1048576 * 1048579 := Nat.mul_le_mul_right _ hl
  exact ⟨m',q1,by omega,q3⟩
 ·obtain ⟨m,q1,_,q3⟩ := hq
  exact ⟨m,q1,q3⟩
theorem CallOk.truth {g : Nat} {as : List A} {b : Bool} (hc : CallOk P φ g as [.bool b] []) {w : World} {K : Nat → Prop} {vs : List Value} (hr : Reps φ w K vs as) (hK : ∀ b,K b → b < w.heap.size) (hG : Glob P K w) :
 Calls P (φ g) vs.toArray w fun e w' => e = .returned (.bool b) ∧ Lo w.heap.size w w' := CallOk.bool hc hr hK hG
theorem shopLaw_pos {law gsz gsp gim gep ges gmp ghp toX toS to1 g0 g1 gI g6 g7 mkX mkS m0 m1 gT mI m6 m7 tS : Nat}
 (L : ShopLawWalk P law (φ gsz) (φ gsp) toX (φ gim) (φ gep) (φ ges) mkX (φ gmp) (φ ghp))
 (h : ToShopWalk P toX (φ g0) (φ g1) toS (φ gI) (φ g6) (φ g7)) (hS : StepsWalk P toS to1 (φ gI) tS) (hm : MarkShopWalk P mkX (φ m0) (φ m1) mkS (φ mI) (φ m6) (φ m7)) (hmS : MarkStepsWalk P mkS (φ gT) (φ mI) tS)
 {x : shopE.ty} (hl : List.length (α := stepE.ty) x.2.2.2.1 ≤ 1048576) (hn : ∀ j,j < List.length (α := stepE.ty) x.2.2.2.1 → List.length (α := Int) (stAt x.2.2.2.1 j).2.2.2.1 ≤ 1048576)
 (c0 : CallOk P φ g0 [.sl 6 ((show List arcE.ty from x.1).map arcE.enc)] [.tok 0 6 ((show List arcE.ty from x.1).map arcE.enc)] [])
 (c1 : CallOk P φ g1 [.sl 4 ((show List neckE.ty from x.2.1).map neckE.enc)] [.tok 0 4 ((show List neckE.ty from x.2.1).map neckE.enc)] [])
 (c3 : ∀ j,j < List.length (α := stepE.ty) x.2.2.2.1 → CallOk P φ gI [.sl 1 ((show List Int from (stAt x.2.2.2.1 j).2.2.2.1).map (ET.enc (.one (.int .i64))))] [.tok 0 1 ((show List Int from (stAt x.2.2.2.1 j).2.2.2.1).map (ET.enc (.one (.int .i64))))] [])
 (c4 : CallOk P φ gI [.sl 1 ((show List Int from x.2.2.2.2.1).map i64E.enc)] [.tok 0 1 ((show List Int from x.2.2.2.2.1).map i64E.enc)] [])
 (c6 : CallOk P φ g6 [.sl 5 ((show List paperE.ty from x.2.2.2.2.2.2.1).map paperE.enc)] [.tok 0 5 ((show List paperE.ty from x.2.2.2.2.2.2.1).map paperE.enc)] [])
 (c7 : CallOk P φ g7 [.sl 4 ((show List entryE.ty from x.2.2.2.2.2.2.2.1).map entryE.enc)] [.tok 0 4 ((show List entryE.ty from x.2.2.2.2.2.2.2.1).map entryE.enc)] [])
 (k0 : ∀ m : Nat,m ≤ 1125899906842624 → ∃ (m' : Nat) (ys : List A),m' ≤ m + 4398046511104 ∧ ys.all A.plain = true ∧ CallOk P φ m0 [.ios 6 ((show List arcE.ty from x.1).map arcE.enc),.int .i64 m] [.int .i64 (m' : Nat)] [.ios 6 ys] )
 (k1 : ∀ m : Nat,m ≤ 1125899906842624 → ∃ (m' : Nat) (ys : List A),m' ≤ m + 4398046511104 ∧ ys.all A.plain = true ∧ CallOk P φ m1 [.ios 4 ((show List neckE.ty from x.2.1).map neckE.enc),.int .i64 m] [.int .i64 (m' : Nat)] [.ios 4 ys] )
 (k4 : ∀ m : Nat,m ≤ 1125899906842624 → ∃ (m' : Nat) (ys : List A),m' ≤ m + 4398046511104 ∧ ys.all A.plain = true ∧ CallOk P φ mI [.ios 1 ((show List Int from x.2.2.2.2.1).map i64E.enc),.int .i64 m] [.int .i64 (m' : Nat)] [.ios 1 ys] )
 (k6 : ∀ m : Nat,m ≤ 1125899906842624 → ∃ (m' : Nat) (ys : List A),m' ≤ m + 4398046511104 ∧ ys.all A.plain = true ∧ CallOk P φ m6 [.ios 5 ((show List paperE.ty from x.2.2.2.2.2.2.1).map paperE.enc),.int .i64 m] [.int .i64 (m' : Nat)] [.ios 5 ys] )
 (k7 : ∀ m : Nat,m ≤ 1125899906842624 → ∃ (m' : Nat) (ys : List A),m' ≤ m + 4398046511104 ∧ ys.all A.plain = true ∧ CallOk P φ m7 [.ios 4 ((show List entryE.ty from x.2.2.2.2.2.2.2.1).map entryE.enc),.int .i64 m] [.int .i64 (m' : Nat)] [.ios 4 ys] )
 (kT : ∀ m : Nat,m ≤ 4611686018427387904 → ∃ t,CallOk P φ gT [.int .i64 m] [.str t] [])
 (kI : ∀ (ns : List Int) (m : Nat),ns.length ≤ 1048576 → m ≤ 4611686018427387904 → ∃ ys : List Int,CallOk P φ mI [.ios 1 (ns.map (ET.enc (.one (.int .i64)))),.int .i64 m] [.int .i64 ((m + ns.length : Nat) : Int)] [.ios 1 (ys.map (ET.enc (.one (.int .i64))))])
 {n cc : Int} {M : Nat} {ws gs gs' : List A} (hgs : gs'.all A.plain = true)
 (kSz : CallOk P φ gsz [shopE.enc x,.int .i64 1048576] [.int .i64 n] []) (kSp : CallOk P φ gsp [shopE.enc x] [.tok 0 3 ws,.int .i64 cc] []) (kIm : CallOk P φ gim [shopE.enc x] [.tok 0 3 gs,.int .i64 cc] [])
 (kEp : CallOk P φ gep [.sl 3 gs,.sl 3 ws] [.bool true] []) (kEs : CallOk P φ ges [shopE.enc x,shopE.enc x] [.bool true] [])
 (kMp : CallOk P φ gmp [.ios 3 gs,.int .i64 1] [.int .i64 (M : Nat)] [.ios 3 gs']) (kHp : CallOk P φ ghp [.sl 3 gs',.int .i64 1] [.int .i64 (M : Nat)] [])
 {w : World} {K : Nat → Prop} {v : Value} (hr : Rep φ w K v (shopE.enc x)) (hK : ∀ b,K b → b < w.heap.size) (hG : Glob P K w) :
 Calls P law #[v] w fun e w' => e = .returned (.bool true) ∧ Lo w.heap.size w w' := by
 obtain ⟨v0,v1,v3,v4,v6,v7,rfl,r0,r1,r3,r4,r6,r7⟩ := agg8 (show Rep φ w K v (.agg [.sl 6 ((show List arcE.ty from x.1).map arcE.enc),.sl 4 ((show List neckE.ty from x.2.1).map neckE.enc),.int .i64 x.2.2.1,.sl 4 ((show List stepE.ty from x.2.2.2.1).map stepE.enc),.sl 1 ((show List Int from x.2.2.2.2.1).map i64E.enc),.int .i64 x.2.2.2.2.2.1,.sl 5 ((show List paperE.ty from x.2.2.2.2.2.2.1).map paperE.enc),.sl 4 ((show List entryE.ty from x.2.2.2.2.2.2.2.1).map entryE.enc)]) from hr)
 have keep : ∀ w',Lo w.heap.size w w' → (∀ b,K b → b < w'.heap.size) ∧ Glob P K w' := fun w' hw =>
  ⟨fun b hb => Nat.lt_of_lt_of_le (hK b hb) hw.size,hG.on (fun _ h => h) fun b hb => hw.block b (hK b hb)⟩
 have all : ∀ w',Lo w.heap.size w w' → Glob P (fun b => b < w'.heap.size) w' := fun w' hw => hG.on (fun b hb => Nat.lt_of_lt_of_le (hK b hb) hw.size) fun b hb => hw.block b (hK b hb)
 have mv : ∀ {v : Value} {a : A} (w' : World),Lo w.heap.size w w' → Rep φ w K v a → Rep φ w' K v a := fun w' hw hr => hr.mono (fun b hb => hw.block b (hK b hb)) fun _ h => h
 have dt : ∀ {d : Nat → Value} {l h : Nat → Nat} {w' : World},ShopP φ tS x d l h w' → Rep φ w' (fun b => b < w'.heap.size) (shopV x d) (shopE.enc x) := fun H => H.data.mono (fun _ _ => rfl) fun b hb => by have := H.p7.1; omega
 have od : ∀ {z : Nat} {xs : List A} {u : Value} {lo hi : Nat} {w' : World},OwnP φ z xs u lo hi w' → Rep φ w' (fun b => b < w'.heap.size) u (.sl z xs) := fun H => H.data.mono (fun _ _ => rfl) fun b hb => by have := H.1; omega
 refine L.run w v0 v1 v3 v4 v6 v7 x.2.2.1 x.2.2.2.2.2.1 n cc M (fun v lo hi w' => ∃ d l h,v = shopV x d ∧ ShopP φ tS x d l h w' ∧ lo ≤ l 0 ∧ h 7 ≤ hi ∧ w.heap.size ≤ l 0) (fun p hi w' => ∃ lo,OwnP φ 3 ws p lo hi w') (fun g lo hi w' => OwnP φ 3 gs g lo hi w' ∧ w.heap.size ≤ lo) (fun g lo hi w' => OwnP φ 3 gs' g lo hi w')
  (fun v lo hi w1 w2 ht hs hz => ?_) (fun g lo hi w1 w2 hg hs hz => ⟨hg.1.keep hs hz,hg.2⟩) (fun g lo hi w1 w2 hg hs hz => hg.keep hs hz) (fun p hi w1 w2 hp hs hz => ?_) (fun w' hw => ?_) (fun w' hw => ?_) (fun v lo hi w' hw ht => ?_) (fun v lo hi w' hw ht => ?_) (fun g lo hi p h0 w' hw hg hp => ?_) (fun v lo hi v2 lo2 hi2 w' hw ht ht2 => ?_) (fun v lo hi w' hw ht => ?_) (fun g lo hi w' hw hg => ?_) (fun g lo hi w' hw hg => ?_)
 ·obtain ⟨d,l,hh,rfl,H,b1,b2,b3⟩ := ht
  exact ⟨d,l,hh,rfl,H.keep (fun c c1 c2 => hs c (by omega) (by omega)) hz,b1,b2,b3⟩
 ·obtain ⟨lo,hp⟩ := hp
  exact ⟨lo,hp.keep (fun c _ c2 => hs c c2) hz⟩
 ·exact CallOk.num kSz (vs := [_,_]) (.cons _ _ _ _ (mv w' hw hr) (.cons _ _ _ _ (.int _ _) .nil)) (keep w' hw).1 (keep w' hw).2
 ·refine (toShop_own h hS (Nat.le_trans hl (by decide)) c0 c1 c3 c4 c6 c7 (mv w' hw r0) (mv w' hw r1) (mv w' hw r3) (mv w' hw r4) (mv w' hw r6) (mv w' hw r7) (keep w' hw).1 (keep w' hw).2).mono fun e w'' hq => ?_
  obtain ⟨ad,nn,cp,q1,q2,l,hh,q3,q4,q5⟩ := hq
  exact ⟨ad,nn,cp,q1,q2,_,l,hh,rfl,q3,q4,q5,Nat.le_trans hw.size q4⟩
 ·obtain ⟨d,l,hh,rfl,H,b1,b2,b3⟩ := ht
  refine (CallOk.ownInt kSp (vs := [_]) (.cons _ _ _ _ (dt H) .nil) (fun _ h => h) (all w' hw)).mono fun e w'' hq => ?_
  obtain ⟨ad,m,cp,q1,q2,q3⟩ := hq
  exact ⟨ad,m,cp,q1,q2,_,q3⟩
 ·obtain ⟨d,l,hh,rfl,H,b1,b2,b3⟩ := ht
  refine (CallOk.ownInt kIm (vs := [_]) (.cons _ _ _ _ (dt H) .nil) (fun _ h => h) (all w' hw)).mono fun e w'' hq => ?_
  obtain ⟨ad,m,cp,q1,q2,q3⟩ := hq
  exact ⟨ad,m,cp,q1,q2,q3,hw.size⟩
 ·obtain ⟨lo0,hp⟩ := hp
  exact CallOk.bool kEp (vs := [_,_]) (.cons _ _ _ _ (od hg.1) (.cons _ _ _ _ (od hp) .nil)) (fun _ h => h) (all w' hw)
 ·obtain ⟨d,l,hh,rfl,H,b1,b2,b3⟩ := ht
  obtain ⟨d2,l2,hh2,rfl,H2,e1,e2,e3⟩ := ht2
  exact CallOk.bool kEs (vs := [_,_]) (.cons _ _ _ _ (dt H) (.cons _ _ _ _ (dt H2) .nil)) (fun _ h => h) (all w' hw)
 ·obtain ⟨d,l,hh,rfl,H,b1,b2,b3⟩ := ht
  refine (markShop_ok hm hmS hl hn k0 k1 k4 k6 k7 kT kI H (keep w' hw).1 (fun b c1 c2 hb => by have := hK b hb; omega) (keep w' hw).2).mono fun e w'' hq => ?_
  obtain ⟨m,q1,q2⟩ := hq
  exact ⟨m,q1,q2.mono fun c hc => ⟨by omega,by omega⟩⟩
 ·exact CallOk.mark kMp hgs hg.1 (keep w' hw).1 (fun b c1 c2 hb => by have := hK b hb; have := hg.2; omega) (keep w' hw).2
 ·exact CallOk.num kHp (vs := [_,_]) (.cons _ _ _ _ (od hg) (.cons _ _ _ _ (.int _ _) .nil)) (fun _ h => h) (all w' hw)
end
open Classical in
noncomputable def lawC (E : ET) (C : E.ty → Prop) : Callee := { io := [],ps := [.d E],rs := [.d (.one .bool)],os := [],f := fun x => if C x.1 then some true else none }
section
variable {P : Program} {φ : Nat → Nat}
open Classical in
theorem lawC_ok {E : ET} {C : E.ty → Prop} {g : Nat} (he : Entered P (φ g)) (hE : ∀ x,lentA (E.enc x) = false)
 (h : ∀ x,C x → ∀ (w : World) (K : Nat → Prop) (v : Value),Rep φ w K v (E.enc x) → (∀ b,K b → b < w.heap.size) → Glob P K w → Calls P (φ g) #[v] w fun e w' => e = .returned (.bool true) ∧ Lo w.heap.size w w') :
 FOk P φ g (lawC E C) := by
 refine FOk.of_contract he rfl rfl fun x y hy0 => ?_
 obtain ⟨x,⟨⟩⟩ := x
 have hy : (if C x then some true else none) = some y := hy0
 split at hy
 ·rename_i hc
  cases hy
  have e1 : encU (lawC E C).ps (x,()) = [E.enc x] := by
   show [(E.v x).a] = _
   rw [ET.v_a]
  rw [e1]
  refine CallOk.of_lo (by simp only [List.any_cons,List.any_nil,hE,Bool.or_self]) fun w K vs hr hK hG => ?_
  cases hr with
  | cons v _ vs _ hv t =>
    cases t
    exact (h x hc w K v hv hK hG).mono fun e w' hq => ⟨[_],hq.1,hq.2,.cons _ _ _ _ (.bool _) .nil⟩
 ·cases hy
theorem callOk_tok {D : List (Nat × Callee)} {H : List (Nat × ET)} {fn : Fn} {E R : ET} {g : Nat} (h : FOk P φ g (mkCallee D H fn [.d E] [.tok R] [])) {x : E.ty} {y : List R.ty} (hf : (mkCallee D H fn [.d E] [.tok R] []).f (x,()) = some y) :
 CallOk P φ g [E.enc x] [.tok 0 R.z (y.map R.enc)] [] := by
 have e : (mkCallee D H fn [.d E] [.tok R] []).cf [E.enc x] = some ([.tok 0 R.z (y.map R.enc)],[]) := by
  rw [Callee.cf_eq (c := mkCallee D H fn [.d E] [.tok R] []) (as := [E.enc x]) (x := (x,())) rfl (by
   show normU [MT.d E] [E.enc x] = [(E.v x).a]
   rw [dOnly_norm rfl,ET.v_a]),hf]
  rfl
 exact h.2 _ _ _ e
theorem callOk_tok2 {D : List (Nat × Callee)} {H : List (Nat × ET)} {fn : Fn} {E R S : ET} {g : Nat} (h : FOk P φ g (mkCallee D H fn [.d E] [.tok R,.d S] [])) {x : E.ty} {y : List R.ty} {c : S.ty} (hf : (mkCallee D H fn [.d E] [.tok R,.d S] []).f (x,()) = some (y,c)) :
 CallOk P φ g [E.enc x] [.tok 0 R.z (y.map R.enc),S.enc c] [] := by
 have e : (mkCallee D H fn [.d E] [.tok R,.d S] []).cf [E.enc x] = some ([.tok 0 R.z (y.map R.enc),S.enc c],[]) := by
  rw [Callee.cf_eq (c := mkCallee D H fn [.d E] [.tok R,.d S] []) (as := [E.enc x]) (x := (x,())) rfl (by
   show normU [MT.d E] [E.enc x] = [(E.v x).a]
   rw [dOnly_norm rfl,ET.v_a]),hf]
  show some ([A.tok 0 R.z (y.map R.enc),(S.v c).a],[]) = _
  rw [ET.v_a]
 exact h.2 _ _ _ e
theorem callOk_ios {D : List (Nat × Callee)} {H : List (Nat × ET)} {fn : Fn} {E R S : ET} {g : Nat} (h : FOk P φ g (mkCallee D H fn [.ios R,.d E] [.d S] [.ios R])) {xs : List R.ty} {m : E.ty} {c : S.ty} {ys : List R.ty}
 (hf : (mkCallee D H fn [.ios R,.d E] [.d S] [.ios R]).f (xs,m,()) = some (c,ys)) : CallOk P φ g [.ios R.z (xs.map R.enc),E.enc m] [S.enc c] [.ios R.z (ys.map R.enc)] := by
 have e : (mkCallee D H fn [.ios R,.d E] [.d S] [.ios R]).cf [.ios R.z (xs.map R.enc),E.enc m] = some ([S.enc c],[.ios R.z (ys.map R.enc)]) := by
  rw [Callee.cf_eq (c := mkCallee D H fn [.ios R,.d E] [.d S] [.ios R]) (as := [.ios R.z (xs.map R.enc),E.enc m]) (x := (xs,m,())) rfl (by
   show A.ios R.z (xs.map R.enc) :: normU [MT.d E] [E.enc m] = [A.ios R.z (xs.map R.enc),(E.v m).a]
   rw [dOnly_norm rfl,ET.v_a]),hf]
  show some ([(S.v c).a],[A.ios R.z (ys.map R.enc)]) = _
  rw [ET.v_a]
 exact h.2 _ _ _ e
end
@[reducible] def probE : ET := .agg (.cons (.int .i64) (.cons .str (.cons .str .nil)))
structure ShopNegWalk (P : Program) (law sz : Nat) : Prop where
 run : ∀ (w : World) (v0 : Value) (v1 : Value) (v3 : Value) (v4 : Value) (v6 : Value) (v7 : Value) (v2 : Int) (v5 : Int) (n : Int) (hn : n < 0)
  (hSz : ∀ w',Lo w.heap.size w w' → Calls P sz #[.agg #[v0,v1,.int .i64 v2,v3,v4,.int .i64 v5,v6,v7],.int .i64 1048576] w' fun e w'' => e = .returned (.int .i64 n) ∧ Lo w'.heap.size w' w''),
  Calls P law #[.agg #[v0,v1,.int .i64 v2,v3,v4,.int .i64 v5,v6,v7]] w fun e w' => e = .returned (.bool true) ∧ Lo w.heap.size w w'
structure ShopF where
 sz : shopE.ty → Int → Option Int
 sp : shopE.ty → Option (List probE.ty × Int)
 im : shopE.ty → Option (List probE.ty × Int)
 ep : List probE.ty → List probE.ty → Option Bool
 es : shopE.ty → shopE.ty → Option Bool
 t0 : List arcE.ty → Option (List arcE.ty)
 t1 : List neckE.ty → Option (List neckE.ty)
 tI : List Int → Option (List Int)
 t6 : List paperE.ty → Option (List paperE.ty)
 t7 : List entryE.ty → Option (List entryE.ty)
 k0 : List arcE.ty → Int → Option (Int × List arcE.ty)
 k1 : List neckE.ty → Int → Option (Int × List neckE.ty)
 kI : List Int → Int → Option (Int × List Int)
 k6 : List paperE.ty → Int → Option (Int × List paperE.ty)
 k7 : List entryE.ty → Int → Option (Int × List entryE.ty)
 kT : Int → Option (List UInt8)
 mp : List probE.ty → Int → Option (Int × List probE.ty)
 hp : List probE.ty → Int → Option Int
structure ShopF.Pos (F : ShopF) (x : shopE.ty) : Prop where
 hl : List.length (α := stepE.ty) x.2.2.2.1 ≤ 1048576
 hn : ∀ j,j < List.length (α := stepE.ty) x.2.2.2.1 → List.length (α := Int) (stAt x.2.2.2.1 j).2.2.2.1 ≤ 1048576
 h4 : List.length (α := Int) x.2.2.2.2.1 ≤ 1048576
 c0 : F.t0 x.1 = some x.1
 c1 : F.t1 x.2.1 = some x.2.1
 cI : ∀ ns : List Int,ns.length ≤ 1048576 → F.tI ns = some ns
 c6 : F.t6 x.2.2.2.2.2.2.1 = some x.2.2.2.2.2.2.1
 c7 : F.t7 x.2.2.2.2.2.2.2.1 = some x.2.2.2.2.2.2.2.1
 k0 : ∀ m : Nat,m ≤ 1125899906842624 → ∃ (m' : Nat) (ys : List arcE.ty),m' ≤ m + 4398046511104 ∧ F.k0 x.1 m = some ((m' : Int),ys)
 k1 : ∀ m : Nat,m ≤ 1125899906842624 → ∃ (m' : Nat) (ys : List neckE.ty),m' ≤ m + 4398046511104 ∧ F.k1 x.2.1 m = some ((m' : Int),ys)
 kI : ∀ (ns : List Int) (m : Nat),ns.length ≤ 1048576 → m ≤ 4611686018427387904 → ∃ ys : List Int,F.kI ns m = some (((m + ns.length : Nat) : Int),ys)
 k6 : ∀ m : Nat,m ≤ 1125899906842624 → ∃ (m' : Nat) (ys : List paperE.ty),m' ≤ m + 4398046511104 ∧ F.k6 x.2.2.2.2.2.2.1 m = some ((m' : Int),ys)
 k7 : ∀ m : Nat,m ≤ 1125899906842624 → ∃ (m' : Nat) (ys : List entryE.ty),m' ≤ m + 4398046511104 ∧ F.k7 x.2.2.2.2.2.2.2.1 m = some ((m' : Int),ys)
 kT : ∀ m : Nat,m ≤ 4611686018427387904 → ∃ t,F.kT m = some t
 es : F.es x x = some true
 res : ∃ (ps : List probE.ty) (c : Int) (M : Nat) (gs : List probE.ty),F.sp x = some (ps,c) ∧ F.im x = some (ps,c) ∧ F.ep ps ps = some true ∧ F.mp ps 1 = some ((M : Int),gs) ∧ F.hp gs 1 = some (M : Int)
def ShopF.Cond (F : ShopF) (x : shopE.ty) : Prop := ∃ n,F.sz x 1048576 = some n ∧ (n < 0 ∨ F.Pos x)
section
variable {P : Program} {φ : Nat → Nat}
theorem shopLaw_ok (F : ShopF) {law sz sp toX im ep es mkX mp hp toS to1 f0 f1 fI f6 f7 mkS n0 n1 nT nI n6 n7 tS : Nat} {g gsz gsp gim gep ges gmp ghp g0 g1 gI g6 g7 m0 m1 mI m6 m7 gT : Nat}
 (L : ShopLawWalk P law sz sp toX im ep es mkX mp hp) (N : ShopNegWalk P law sz) (h : ToShopWalk P toX f0 f1 toS fI f6 f7) (hS : StepsWalk P toS to1 fI tS) (hm : MarkShopWalk P mkX n0 n1 mkS nI n6 n7) (hmS : MarkStepsWalk P mkS nT nI tS)
 (hφ : [g,gsz,gsp,gim,gep,ges,gmp,ghp,g0,g1,gI,g6,g7,m0,m1,mI,m6,m7,gT].map φ = [law,sz,sp,im,ep,es,mp,hp,f0,f1,fI,f6,f7,n0,n1,nI,n6,n7,nT])
 (osz : ∀ x l n,F.sz x l = some n → CallOk P φ gsz [shopE.enc x,.int .i64 l] [.int .i64 n] [])
 (osp : ∀ x ps c,F.sp x = some (ps,c) → CallOk P φ gsp [shopE.enc x] [.tok 0 3 (ps.map probE.enc),.int .i64 c] [])
 (oim : ∀ x ps c,F.im x = some (ps,c) → CallOk P φ gim [shopE.enc x] [.tok 0 3 (ps.map probE.enc),.int .i64 c] [])
 (oep : ∀ x y b,F.ep x y = some b → CallOk P φ gep [.sl 3 (x.map probE.enc),.sl 3 (y.map probE.enc)] [.bool b] [])
 (oes : ∀ x y b,F.es x y = some b → CallOk P φ ges [shopE.enc x,shopE.enc y] [.bool b] [])
 (ot0 : ∀ x y,F.t0 x = some y → CallOk P φ g0 [.sl 6 (x.map arcE.enc)] [.tok 0 6 (y.map arcE.enc)] [])
 (ot1 : ∀ x y,F.t1 x = some y → CallOk P φ g1 [.sl 4 (x.map neckE.enc)] [.tok 0 4 (y.map neckE.enc)] [])
 (otI : ∀ x y,F.tI x = some y → CallOk P φ gI [.sl 1 (x.map i64E.enc)] [.tok 0 1 (y.map i64E.enc)] [])
 (ot6 : ∀ x y,F.t6 x = some y → CallOk P φ g6 [.sl 5 (x.map paperE.enc)] [.tok 0 5 (y.map paperE.enc)] [])
 (ot7 : ∀ x y,F.t7 x = some y → CallOk P φ g7 [.sl 4 (x.map entryE.enc)] [.tok 0 4 (y.map entryE.enc)] [])
 (ok0 : ∀ x m m' y,F.k0 x m = some (m',y) → CallOk P φ m0 [.ios 6 (x.map arcE.enc),.int .i64 m] [.int .i64 m'] [.ios 6 (y.map arcE.enc)])
 (ok1 : ∀ x m m' y,F.k1 x m = some (m',y) → CallOk P φ m1 [.ios 4 (x.map neckE.enc),.int .i64 m] [.int .i64 m'] [.ios 4 (y.map neckE.enc)])
 (okI : ∀ x m m' y,F.kI x m = some (m',y) → CallOk P φ mI [.ios 1 (x.map i64E.enc),.int .i64 m] [.int .i64 m'] [.ios 1 (y.map i64E.enc)])
 (ok6 : ∀ x m m' y,F.k6 x m = some (m',y) → CallOk P φ m6 [.ios 5 (x.map paperE.enc),.int .i64 m] [.int .i64 m'] [.ios 5 (y.map paperE.enc)])
 (ok7 : ∀ x m m' y,F.k7 x m = some (m',y) → CallOk P φ m7 [.ios 4 (x.map entryE.enc),.int .i64 m] [.int .i64 m'] [.ios 4 (y.map entryE.enc)])
 (okT : ∀ m t,F.kT m = some t → CallOk P φ gT [.int .i64 m] [.str t] [])
 (omp : ∀ x m m' y,F.mp x m = some (m',y) → CallOk P φ gmp [.ios 3 (x.map probE.enc),.int .i64 m] [.int .i64 m'] [.ios 3 (y.map probE.enc)])
 (ohp : ∀ x m m',F.hp x m = some m' → CallOk P φ ghp [.sl 3 (x.map probE.enc),.int .i64 m] [.int .i64 m'] []) :
 FOk P φ g (lawC shopE F.Cond) := by
 simp only [List.map_cons,List.map_nil,List.cons.injEq,and_true] at hφ
 obtain ⟨rfl,rfl,rfl,rfl,rfl,rfl,rfl,rfl,rfl,rfl,rfl,rfl,rfl,rfl,rfl,rfl,rfl,rfl,rfl⟩ := hφ
 refine lawC_ok L.en (fun x => by obtain ⟨x0,x1,x2,x3,x4,x5,x6,x7,⟨⟩⟩ := x; rfl) fun x hx w K v hr hK hG => ?_
 obtain ⟨n,e1,hx⟩ := hx
 rcases hx with hneg | hx
 ·have keep : ∀ w',Lo w.heap.size w w' → (∀ b,K b → b < w'.heap.size) ∧ Glob P K w' := fun w' hw =>
   ⟨fun b hb => Nat.lt_of_lt_of_le (hK b hb) hw.size,hG.on (fun _ h => h) fun b hb => hw.block b (hK b hb)⟩
  have mv : ∀ {v : Value} {a : A} (w' : World),Lo w.heap.size w w' → Rep φ w K v a → Rep φ w' K v a := fun w' hw hr => hr.mono (fun b hb => hw.block b (hK b hb)) fun _ h => h
  obtain ⟨v0,v1,v3,v4,v6,v7,rfl,_⟩ := agg8 (show Rep φ w K v (.agg [.sl 6 ((show List arcE.ty from x.1).map arcE.enc),.sl 4 ((show List neckE.ty from x.2.1).map neckE.enc),.int .i64 x.2.2.1,.sl 4 ((show List stepE.ty from x.2.2.2.1).map stepE.enc),.sl 1 ((show List Int from x.2.2.2.2.1).map i64E.enc),.int .i64 x.2.2.2.2.2.1,.sl 5 ((show List paperE.ty from x.2.2.2.2.2.2.1).map paperE.enc),.sl 4 ((show List entryE.ty from x.2.2.2.2.2.2.2.1).map entryE.enc)]) from hr)
  exact N.run w v0 v1 v3 v4 v6 v7 x.2.2.1 x.2.2.2.2.2.1 n hneg fun w' hw => CallOk.num (osz _ _ _ e1) (vs := [_,_]) (.cons _ _ _ _ (mv w' hw hr) (.cons _ _ _ _ (.int _ _) .nil)) (keep w' hw).1 (keep w' hw).2
 ·obtain ⟨ps,c,M,gs,r1,r2,r3,r4,r5⟩ := hx.res
  have P1 : ∀ {t : ET},t.plain = true → ∀ ys : List t.ty,(ys.map t.enc).all A.plain = true := fun h ys => all_plain h ys
  exact shopLaw_pos L h hS hm hmS hx.hl hx.hn (ot0 _ _ hx.c0) (ot1 _ _ hx.c1) (fun j hj => otI _ _ (hx.cI _ (hx.hn j hj))) (otI _ _ (hx.cI _ hx.h4)) (ot6 _ _ hx.c6) (ot7 _ _ hx.c7)
   (fun m hm => by obtain ⟨m',ys,q1,q2⟩ := hx.k0 m hm; exact ⟨m',_,q1,P1 (t := arcE) rfl ys,ok0 _ _ _ _ q2⟩)
   (fun m hm => by obtain ⟨m',ys,q1,q2⟩ := hx.k1 m hm; exact ⟨m',_,q1,P1 (t := neckE) rfl ys,ok1 _ _ _ _ q2⟩)
   (fun m hm => by obtain ⟨ys,q2⟩ := hx.kI _ m hx.h4 (by omega); have := hx.h4; exact ⟨_,_,by omega,P1 (t := i64E) rfl ys,okI _ _ _ _ q2⟩)
   (fun m hm => by obtain ⟨m',ys,q1,q2⟩ := hx.k6 m hm; exact ⟨m',_,q1,P1 (t := paperE) rfl ys,ok6 _ _ _ _ q2⟩)
   (fun m hm => by obtain ⟨m',ys,q1,q2⟩ := hx.k7 m hm; exact ⟨m',_,q1,P1 (t := entryE) rfl ys,ok7 _ _ _ _ q2⟩)
   (fun m hm => by obtain ⟨t,q⟩ := hx.kT m hm; exact ⟨t,okT _ _ q⟩)
   (fun ns m hns hm => by obtain ⟨ys,q⟩ := hx.kI ns m hns hm; exact ⟨ys,okI _ _ _ _ q⟩)
   (P1 (t := probE) rfl gs) (osz _ _ _ e1) (osp _ _ _ r1) (oim _ _ _ r2) (oep _ _ _ r3) (oes _ _ _ hx.es) (omp _ _ _ _ r4) (ohp _ _ _ r5) hr hK hG
end
end Go.Ab
