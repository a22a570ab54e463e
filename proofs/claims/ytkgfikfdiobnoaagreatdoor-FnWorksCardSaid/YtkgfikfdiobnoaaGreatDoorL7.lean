/- Laws about a workshop, out of walks and contracts. Conditions: none. -/
import Derived.Test.YtkgfikfdiobnoaaGreatDoorL6
set_option linter.unusedVariables false
set_option linter.unusedSimpArgs false
namespace Go.Ab
structure Rg (X : Nat → Prop) (w w' : World) : Prop where
 size : w.heap.size ≤ w'.heap.size
 block : ∀ c,c < w.heap.size → ¬ X c → w'.heap[c]? = w.heap[c]?
 os : w'.os = w.os
 output : w'.output = w.output
def OwnP (φ : Nat → Nat) (z : Nat) (xs : List A) (v : Value) (lo hi : Nat) (w : World) : Prop :=
 hi ≤ w.heap.size ∧ xs.all A.plain = true ∧ ∃ b,OwnRep φ w (fun _ => False) v z xs b ∧ ∀ c,b = some c → lo ≤ c ∧ c < hi
section
variable {P : Program} {φ : Nat → Nat}
theorem OwnRep.any {z : Nat} {xs : List A} {v : Value} {b : Option Nat} {K K2 : Nat → Prop} {w : World} (h : OwnRep φ w K v z xs b) (hp : xs.all A.plain = true) : OwnRep φ w K2 v z xs b := by
 cases h with
 | empty ad z => exact .empty ad z
 | mk b o cap z xs vs hc h0 hzz hr hv hroom => exact .mk b o cap z xs vs hc h0 hzz (hr.plain (Zef hp)) hv hroom
theorem OwnRep.val {z : Nat} {xs : List A} {v : Value} {b : Option Nat} {K : Nat → Prop} {w : World} (h : OwnRep φ w K v z xs b) : (b = none ∧ ∃ ad,v = .slice ad 0 0) ∨ ∃ c o n cap,b = some c ∧ v = .slice (some ⟨c,o,none⟩) n cap ∧ cap ≠ 0 := by
 cases h with
 | empty ad z => exact .inl ⟨rfl,ad,rfl⟩
 | mk b o cap z xs vs hc h0 hzz hr hv hroom => exact .inr ⟨b,o,_,cap,rfl,rfl,h0⟩
theorem OwnP.keep {z : Nat} {xs : List A} {v : Value} {lo hi : Nat} {w w' : World} (h : OwnP φ z xs v lo hi w) (hs : ∀ c,lo ≤ c → c < hi → w'.heap[c]? = w.heap[c]?) (hz : w.heap.size ≤ w'.heap.size) : OwnP φ z xs v lo hi w' := by
 obtain ⟨h1,h2,b,h3,h4⟩ := h
 refine ⟨Nat.le_trans h1 hz,h2,b,?_,h4⟩
 cases h3 with
 | empty ad z => exact .empty ad z
 | mk b o cap z xs vs hc h0 hzz hr hv hroom =>
   obtain ⟨l1,l2⟩ := h4 b rfl
   have e := hs b l1 l2
   exact .mk b o cap z xs vs hc h0 hzz (hr.mono (fun _ h => h.elim) fun _ h => h.elim) (hv.of_block e) (hroom.of_block e)
theorem OwnP.data {z : Nat} {xs : List A} {v : Value} {lo hi : Nat} {w : World} (h : OwnP φ z xs v lo hi w) : Rep φ w (fun b => lo ≤ b ∧ b < hi) v (.sl z xs) := by
 obtain ⟨h1,h2,b,h3,h4⟩ := h
 cases h3 with
 | empty ad z => exact .slE ad 0 z
 | mk b o cap z xs vs hc h0 hzz hr hv hroom => exact .sl b o cap z xs vs (h4 b rfl) hzz hc (hr.plain (Zef h2)) hv
theorem OwnP.slice {z : Nat} {xs : List A} {v : Value} {lo hi : Nat} {w : World} (h : OwnP φ z xs v lo hi w) : ∃ ad n cp,v = .slice ad n cp := by
 obtain ⟨h1,h2,b,h3,h4⟩ := h
 cases h3 with
 | empty ad z => exact ⟨_,_,_,rfl⟩
 | mk => exact ⟨_,_,_,rfl⟩
theorem OwnRep.toP {z : Nat} {xs : List A} {v : Value} {b : Option Nat} {K : Nat → Prop} {lo : Nat} {w : World} (h : OwnRep φ w K v z xs b) (hp : xs.all A.plain = true) (hb : ∀ c,b = some c → lo ≤ c ∧ c < w.heap.size) : OwnP φ z xs v lo w.heap.size w := by
 refine ⟨Nat.le_refl _,hp,b,?_,hb⟩
 cases h with
 | empty ad z => exact .empty ad z
 | mk b o cap z xs vs hc h0 hzz hr hv hroom => exact .mk b o cap z xs vs hc h0 hzz (hr.plain (Zef hp)) hv hroom
theorem CallOk.own {g j z : Nat} {as xs : List A} (hc : CallOk P φ g as [.tok j z xs] []) {w : World} {K : Nat → Prop} {vs : List Value} (hr : Reps φ w K vs as) (hK : ∀ b,K b → b < w.heap.size) (hG : Glob P K w) (hp : xs.all A.plain = true := by first | assumption | exact Z3h rfl _) :
 Calls P (φ g) vs.toArray w fun e w' => ∃ ad n cp,e = .returned (.slice ad n cp) ∧ Lo w.heap.size w w' ∧ OwnP φ z xs (.slice ad n cp) w.heap.size w'.heap.size w' := by
 refine (hc w K vs [] (Zfw hr) List.nodup_nil (fun _ h => by cases h) hK hG).mono fun e w' ⟨v,he,hb⟩ => ?_
 subst he
 obtain ⟨rvs,K',rb,ob,hv,_,_,hrr,ho,_,hbl⟩ := hb.rest
 cases hrr with
 | cons v0 _ b0 vs0 _ bs0 h1 h2 =>
   cases h2
   cases h1 with
   | data _ h3 => cases h3
   | tok _ _ _ b h3 =>
     have hP := h3.toP hp (fun c hc => by
      subst hc
      have := hbl c (by simp)
      exact ⟨this.2.2.resolve_left (by simp),this.2.1⟩)
     obtain ⟨ad,n,cp,rfl⟩ := hP.slice
     exact ⟨ad,n,cp,by rw [hv]; rfl,⟨hb.grow,fun b hb' => hb.frame b hb' (by simp),hb.env.1,hb.env.2⟩,hP⟩
theorem CallOk.mark {g z : Nat} {xs ys : List A} {m m' : Int} (hc : CallOk P φ g [.ios z xs,.int .i64 m] [.int .i64 m'] [.ios z ys]) (hys : ys.all A.plain = true) {w : World} {K : Nat → Prop} {v : Value} {lo hi : Nat}
 (hv : OwnP φ z xs v lo hi w) (hK : ∀ b,K b → b < w.heap.size) (hKx : ∀ b,lo ≤ b → b < hi → ¬ K b) (hG : Glob P K w) :
 Calls P (φ g) #[v,.int .i64 m] w fun e w' => e = .returned (.int .i64 m') ∧ Rg (fun c => lo ≤ c ∧ c < hi) w w' ∧ OwnP φ z ys v lo hi w' := by
 obtain ⟨h1,h2,b,h3,h4⟩ := hv
 have ha : ArgReps φ w K [v,.int .i64 m] [.ios z xs,.int .i64 m] (b.toList ++ ([] ++ [])) := .cons _ _ _ _ _ _ (.ios v z xs b (h3.mono fun _ h => h.elim)) (.cons _ _ _ _ _ _ (.data _ _ (.int _ _)) .nil)
 simp only [List.append_nil] at ha
 refine (hc w K [v,.int .i64 m] b.toList ha (by cases b <;> simp) (fun c hc' => by
  cases b with
  | none => simp at hc'
  | some b0 =>
    simp only [Option.toList,List.mem_singleton] at hc'
    subst hc'
    exact hKx _ (h4 _ rfl).1 (h4 _ rfl).2) hK hG).mono fun e w' ⟨u,he,hb⟩ => ?_
 subst he
 obtain ⟨rvs,K',rb,ob,hv',_,_,hrr,ho,_,hbl⟩ := hb.rest
 refine ⟨?_,⟨hb.grow,fun c hc1 hc2 => hb.frame c hc1 (fun hm => ?_),hb.env.1,hb.env.2⟩,?_⟩
 ·cases hrr with
  | cons v0 _ _ vs0 _ _ h5 h6 =>
    cases h6
    cases h5 with
    | data _ h7 => cases h7; rw [hv']; rfl
 ·cases b with
  | none => simp at hm
  | some b0 =>
    simp only [Option.toList,List.mem_singleton] at hm
    subst hm
    exact hc2 (h4 _ rfl)
 ·cases ho with
  | data _ _ _ _ _ _ hne _ => exact absurd rfl (hne.2 z xs)
  | ios _ _ _ _ b1 _ _ _ bs1 h5 hl ht =>
    have hP : OwnP φ z ys v lo hi w' := by
     refine ⟨Nat.le_trans h1 hb.grow,hys,b1,h5.any hys,fun c hc' => ?_⟩
     subst hc'
     rcases h5.val with ⟨e,_⟩ | ⟨c1,o1,n1,p1,e,e2,e3⟩
     ·cases e
     ·cases e
      rcases h3.val with ⟨_,ad,e4⟩ | ⟨c2,o2,n2,p2,e4,e5,_⟩
      ·rw [e4] at e2; cases e2; exact absurd rfl e3
      ·rw [e5] at e2; cases e2; exact h4 _ e4
    exact hP
def StepsP (φ : Nat → Nat) (t : TypeId) (xs : List stepE.ty) (v : Value) (lo hi : Nat) (w : World) : Prop :=
 hi ≤ w.heap.size ∧ ∃ (b : Nat) (C : Array Value) (ad : Nat → Option Addr) (n cp los his : Nat → Nat),v = .slice (some ⟨b,0,none⟩) xs.length xs.length ∧ lo ≤ b ∧ b < hi ∧ w.heap[b]? = some (.cells C t) ∧ C.size = xs.length * 4 ∧
  (∀ j,j < xs.length → C[j * 4]? = some (.string ⟨(stAt xs j).1.toArray⟩) ∧ C[j * 4 + 1]? = some (.int .i64 (stAt xs j).2.1) ∧ C[j * 4 + 2]? = some (.int .i64 (stAt xs j).2.2.1) ∧ C[j * 4 + 3]? = some (.slice (ad j) (n j) (cp j)) ∧
    OwnP φ 1 ((show List Int from (stAt xs j).2.2.2.1).map (ET.enc (.one (.int .i64)))) (.slice (ad j) (n j) (cp j)) (los j) (his j) w ∧ b < los j ∧ los j ≤ his j ∧ his j ≤ hi) ∧ ∀ i j,i < j → j < xs.length → his i ≤ los j
theorem StepsP.keep {t : TypeId} {xs : List stepE.ty} {v : Value} {lo hi : Nat} {w w' : World} (h : StepsP φ t xs v lo hi w) (hs : ∀ c,lo ≤ c → c < hi → w'.heap[c]? = w.heap[c]?) (hz : w.heap.size ≤ w'.heap.size) : StepsP φ t xs v lo hi w' := by
 obtain ⟨h1,b,C,ad,n,cp,los,his,h2,h3,h4,h5,h6,h7,h8⟩ := h
 refine ⟨Nat.le_trans h1 hz,b,C,ad,n,cp,los,his,h2,h3,h4,(hs b h3 h4).trans h5,h6,fun j hj => ?_,h8⟩
 obtain ⟨a0,a1,a2,a3,a4,a5,a6,a7⟩ := h7 j hj
 exact ⟨a0,a1,a2,a3,a4.keep (fun c c1 c2 => hs c (by omega) (by omega)) hz,a5,a6,a7⟩
theorem StepsP.data {t : TypeId} {xs : List stepE.ty} {v : Value} {lo hi : Nat} {w : World} (h : StepsP φ t xs v lo hi w) : Rep φ w (fun b => lo ≤ b ∧ b < hi) v (.sl 4 (xs.map stepE.enc)) := by
 obtain ⟨h1,b,C,ad,n,cp,los,his,rfl,h3,h4,h5,h6,h7,h8⟩ := h
 have key : ∀ k i,i + k = xs.length → Reps φ w (fun b => lo ≤ b ∧ b < hi) ((List.range' i k).flatMap fun j => [Value.string ⟨(stAt xs j).1.toArray⟩,.int .i64 (stAt xs j).2.1,.int .i64 (stAt xs j).2.2.1,.slice (ad j) (n j) (cp j)]) (((xs.drop i).map stepE.enc).flatMap A.cells) ∧
  Cells w b (i * 4) ((List.range' i k).flatMap fun j => [Value.string ⟨(stAt xs j).1.toArray⟩,.int .i64 (stAt xs j).2.1,.int .i64 (stAt xs j).2.2.1,.slice (ad j) (n j) (cp j)]) := by
  intro k
  induction k with
  | zero =>
    intro i hi'
    rw [List.drop_eq_nil_of_le (by omega)]
    exact ⟨.nil,fun j v hv => by simp at hv⟩
  | succ k ih =>
    intro i hi'
    have hil : i < xs.length := by omega
    obtain ⟨r1,r2⟩ := ih (i + 1) (by omega)
    obtain ⟨a0,a1,a2,a3,a4,a5,a6,a7⟩ := h7 i hil
    have hst : stAt xs i = xs[i] := by simp [stAt,List.getElem?_eq_getElem hil]
    rw [List.range'_succ,List.flatMap_cons,List.drop_eq_getElem_cons hil,List.map_cons,List.flatMap_cons]
    refine ⟨Reps.append ?_ r1,?_⟩
    ·have hd := a4.data.mono (ok' := fun b => lo ≤ b ∧ b < hi) (fun _ _ => rfl) (fun c hc => ⟨by omega,by omega⟩)
     rw [hst] at hd ⊢
     generalize xs[i] = x at hd ⊢
     obtain ⟨s1,s2,s3,s4,⟨⟩⟩ := x
     exact .cons _ _ _ _ (.str s1) (.cons _ _ _ _ (.int _ _) (.cons _ _ _ _ (.int _ _) (.cons _ _ _ _ hd .nil)))
    ·intro j v hv
     have hcell : ∀ m u,C[m]? = some u → w.cell? ⟨b,m,none⟩ = some u := fun m u hu => by simp [World.cell?,h5,hu]
     match j,hv with
     | 0,hv => cases hv; exact hcell _ _ a0
     | 1,hv => cases hv; exact hcell _ _ a1
     | 2,hv => cases hv; exact hcell _ _ a2
     | 3,hv => cases hv; exact hcell _ _ a3
     | j + 4,hv =>
       have := r2 j v (by simpa using hv)
       rw [show (i + 1) * 4 + j = i * 4 + (j + 4) by omega] at this
       exact this
 obtain ⟨r1,r2⟩ := key xs.length 0 (by omega)
 have := Rep.sl (φ := φ) (w := w) (ok := fun b => lo ≤ b ∧ b < hi) b 0 xs.length 4 (xs.map stepE.enc) _ ⟨h3,h4⟩ (fun x hx => by
  obtain ⟨y,_,rfl⟩ := List.mem_map.1 hx
  exact ET.enc_z stepE y) (by simp) r1 (by simpa using r2)
 rw [List.length_map] at this
 exact this
@[reducible] def i64E : ET := .one (.int .i64)
@[reducible] def arcE : ET := .agg (.cons (.int .i64) (.cons (.int .i64) (.cons (.int .i64) (.cons (.int .i64) (.cons (.int .i64) (.cons (.int .i64) .nil))))))
@[reducible] def neckE : ET := .agg (.cons (.int .i64) (.cons (.int .i64) (.cons (.int .i64) (.cons (.int .i64) .nil))))
@[reducible] def paperE : ET := .agg (.cons .str (.cons .str (.cons (.int .i64) (.cons (.int .i64) (.cons (.int .i64) .nil)))))
@[reducible] def entryE : ET := .agg (.cons (.int .i64) (.cons .str (.cons .str (.cons (.int .i64) .nil))))
@[reducible] def shopE : ET := .agg (.cons (.sl arcE) (.cons (.sl neckE) (.cons (.int .i64) (.cons (.sl stepE) (.cons (.sl i64E) (.cons (.int .i64) (.cons (.sl paperE) (.cons (.sl entryE) .nil))))))))
structure ShopP (φ : Nat → Nat) (t : TypeId) (x : shopE.ty) (d : Nat → Value) (l h : Nat → Nat) (w : World) : Prop where
 p0 : OwnP φ 6 ((show List arcE.ty from x.1).map arcE.enc) (d 0) (l 0) (h 0) w
 p1 : OwnP φ 4 ((show List neckE.ty from x.2.1).map neckE.enc) (d 1) (l 1) (h 1) w
 p3 : StepsP φ t x.2.2.2.1 (d 3) (l 3) (h 3) w
 p4 : OwnP φ 1 ((show List Int from x.2.2.2.2.1).map i64E.enc) (d 4) (l 4) (h 4) w
 p6 : OwnP φ 5 ((show List paperE.ty from x.2.2.2.2.2.2.1).map paperE.enc) (d 6) (l 6) (h 6) w
 p7 : OwnP φ 4 ((show List entryE.ty from x.2.2.2.2.2.2.2.1).map entryE.enc) (d 7) (l 7) (h 7) w
 ch : (l 0 ≤ h 0 ∧ h 0 ≤ l 1) ∧ (l 1 ≤ h 1 ∧ h 1 ≤ l 3) ∧ (l 3 ≤ h 3 ∧ h 3 ≤ l 4) ∧ (l 4 ≤ h 4 ∧ h 4 ≤ l 6) ∧ (l 6 ≤ h 6 ∧ h 6 ≤ l 7) ∧ l 7 ≤ h 7
def shopV (x : shopE.ty) (d : Nat → Value) : Value := .agg #[d 0,d 1,.int .i64 x.2.2.1,d 3,d 4,.int .i64 x.2.2.2.2.2.1,d 6,d 7]
theorem ShopP.keep {t : TypeId} {x : shopE.ty} {d : Nat → Value} {l h : Nat → Nat} {w w' : World} (H : ShopP φ t x d l h w) (hs : ∀ c,l 0 ≤ c → c < h 7 → w'.heap[c]? = w.heap[c]?) (hz : w.heap.size ≤ w'.heap.size) : ShopP φ t x d l h w' := by
 have c := H.ch
 exact ⟨H.p0.keep (fun _ _ _ => hs _ (by omega) (by omega)) hz,H.p1.keep (fun _ _ _ => hs _ (by omega) (by omega)) hz,H.p3.keep (fun _ _ _ => hs _ (by omega) (by omega)) hz,H.p4.keep (fun _ _ _ => hs _ (by omega) (by omega)) hz,H.p6.keep (fun _ _ _ => hs _ (by omega) (by omega)) hz,H.p7.keep (fun _ _ _ => hs _ (by omega) (by omega)) hz,H.ch⟩
theorem ShopP.data {t : TypeId} {x : shopE.ty} {d : Nat → Value} {l h : Nat → Nat} {w : World} (H : ShopP φ t x d l h w) : Rep φ w (fun b => l 0 ≤ b ∧ b < h 7) (shopV x d) (shopE.enc x) := by
 have c := H.ch
 obtain ⟨x0,x1,x2,x3,x4,x5,x6,x7,⟨⟩⟩ := x
 have m : ∀ {v : Value} {a : A} {l' h' : Nat},Rep φ w (fun b => l' ≤ b ∧ b < h') v a → l 0 ≤ l' → h' ≤ h 7 → Rep φ w (fun b => l 0 ≤ b ∧ b < h 7) v a := fun hr h1 h2 => hr.mono (fun _ _ => rfl) fun b hb => ⟨by omega,by omega⟩
 exact .agg [_,_,_,_,_,_,_,_] _ (.cons _ _ _ _ (m H.p0.data (by omega) (by omega)) (.cons _ _ _ _ (m H.p1.data (by omega) (by omega)) (.cons _ _ _ _ (.int _ _) (.cons _ _ _ _ (m H.p3.data (by omega) (by omega)) (.cons _ _ _ _ (m H.p4.data (by omega) (by omega)) (.cons _ _ _ _ (.int _ _) (.cons _ _ _ _ (m H.p6.data (by omega) (by omega)) (.cons _ _ _ _ (m H.p7.data (by omega) (by omega)) .nil))))))))
theorem OwnP.weak {z : Nat} {xs : List A} {v : Value} {lo hi lo' hi' : Nat} {w : World} (h : OwnP φ z xs v lo hi w) (h1 : lo' ≤ lo) (h2 : hi ≤ hi') (h3 : hi' ≤ w.heap.size) : OwnP φ z xs v lo' hi' w := by
 obtain ⟨_,a2,b,a3,a4⟩ := h
 exact ⟨h3,a2,b,a3,fun c hc => ⟨by have := a4 c hc; omega,by have := a4 c hc; omega⟩⟩
end
def Hi (lo : Nat) (w w' : World) : Prop := w.heap.size ≤ w'.heap.size ∧ ∀ b,lo ≤ b → b < w.heap.size → w'.heap[b]? = w.heap[b]?
theorem Ze6 (w : World) (o : Obj) {b : Nat} (h : b = w.heap.size) : (w.alloc o).heap[b]? = some o := by subst h; simp only [World.alloc,Array.getElem?_push_size]
theorem Zaj (w : World) (o : Obj) {b : Nat} (h : b < w.heap.size) : (w.alloc o).heap[b]? = w.heap[b]? := by simp only [World.alloc]; rw [Array.getElem?_push_lt h,Array.getElem?_eq_getElem h]
theorem Zaf (w : World) (a : Addr) (v : Value) : (w.setCell a v).heap.size = w.heap.size := by simp [World.setCell]
theorem Zan (w : World) (b j c : Nat) (v : Value) (h : c ≠ b) : (w.setCell ⟨b,j,none⟩ v).heap[c]? = w.heap[c]? := Go.RowKit.Below.heap_setCell w _ v c h
theorem Lo.setCell {B : Nat} {w w1 : World} (h : Lo B w w1) {b j : Nat} {v : Value} (hb : B ≤ b) : Lo B w (w1.setCell ⟨b,j,none⟩ v) :=
 ⟨by rw [Zaf]; exact h.size,fun c hc => (Zan _ _ _ _ _ (by omega)).trans (h.block c hc),h.os,h.output⟩
theorem Hi.refl (lo : Nat) (w : World) : Hi lo w w := ⟨Nat.le_refl _,fun _ _ _ => rfl⟩
theorem Hi.setCell {lo : Nat} {w w1 : World} (h : Hi lo w w1) {b j : Nat} {v : Value} (hb : b < lo) : Hi lo w (w1.setCell ⟨b,j,none⟩ v) :=
 ⟨by rw [Zaf]; exact h.1,fun c h1 h2 => (Zan _ _ _ _ _ (by omega)).trans (h.2 c h1 h2)⟩
theorem Zjg {w : World} {b : Nat} {C : Array Value} {t : TypeId} (h : w.heap[b]? = some (.cells C t)) (j : Nat) (v : Value) : (w.setCell ⟨b,j,none⟩ v).heap[b]? = some (.cells (C.setIfInBounds j v) t) := by
 simp only [World.setCell,Array.getElem?_modify,if_true,h,Option.map_some]
 rfl
theorem Lo.drew {B : Nat} {w w1 : World} (h : Lo B w w1) : Lo B w w1.drew := ⟨h.size,h.block,h.os,h.output⟩
theorem Hi.of_lo {lo : Nat} {w w' : World} (h : Lo w.heap.size w w') : Hi lo w w' := ⟨h.size,fun b _ hb => h.block b hb⟩
theorem Hi.trans {lo : Nat} {w w1 w2 : World} (h : Hi lo w w1) (h' : Hi lo w1 w2) : Hi lo w w2 := ⟨Nat.le_trans h.1 h'.1,fun b h1 h2 => (h'.2 b h1 (Nat.lt_of_lt_of_le h2 h.1)).trans (h.2 b h1 h2)⟩
theorem Rg.refl (X : Nat → Prop) (w : World) : Rg X w w := ⟨Nat.le_refl _,fun _ _ _ => rfl,rfl,rfl⟩
theorem Rg.trans {X : Nat → Prop} {w w1 w2 : World} (h : Rg X w w1) (h' : Rg X w1 w2) : Rg X w w2 :=
 ⟨Nat.le_trans h.size h'.size,fun c hc hx => (h'.block c (Nat.lt_of_lt_of_le hc h.size) hx).trans (h.block c hc hx),h'.os.trans h.os,h'.output.trans h.output⟩
theorem Rg.of_lo {X : Nat → Prop} {w w' : World} (h : Lo w.heap.size w w') : Rg X w w' := ⟨h.size,fun c hc _ => h.block c hc,h.os,h.output⟩
theorem Lo.rg {X : Nat → Prop} {B : Nat} {w w1 w2 : World} (h : Lo B w w1) (hr : Rg X w1 w2) (hx : ∀ c,X c → B ≤ c) (hB : B ≤ w1.heap.size) : Lo B w w2 :=
 ⟨Nat.le_trans h.size hr.size,fun c hc => (hr.block c (Nat.lt_of_lt_of_le hc hB) (fun e => Nat.lt_irrefl _ (Nat.lt_of_lt_of_le hc (hx c e)))).trans (h.block c hc),hr.os.trans h.os,hr.output.trans h.output⟩
theorem Rg.setCell {X : Nat → Prop} {w w1 : World} (h : Rg X w w1) {b j : Nat} {v : Value} (hb : X b) : Rg X w (w1.setCell ⟨b,j,none⟩ v) :=
 ⟨by rw [Zaf]; exact h.size,fun c hc hx => (Zan _ _ _ _ _ (fun e => hx (by rw [e]; exact hb))).trans (h.block c hc hx),h.os,h.output⟩
structure Z6v (P : Program) (toS to1 toI tS : Nat) : Prop where
 one : ∀ (w : World) (s : ByteArray) (h c : Int) (va : Value) (V4 : Value → Nat → World → Prop),(∀ v lo w w',V4 v lo w → Hi lo w w' → V4 v lo w') →
  (∀ w',Lo w.heap.size w w' → Calls P toI #[va] w' fun e w'' => ∃ ad n cap,e = .returned (.slice ad n cap) ∧ Lo w'.heap.size w' w'' ∧ V4 (.slice ad n cap) w'.heap.size w'') →
  Calls P to1 #[.agg #[.string s,.int .i64 h,.int .i64 c,va]] w fun e w' => ∃ ad n cap,e = .returned (.agg #[.string s,.int .i64 h,.int .i64 c,.slice ad n cap]) ∧ Lo w.heap.size w w' ∧ V4 (.slice ad n cap) (w.heap.size + 3) w'
 nil : ∀ (a : Option Addr) (cap : Nat) (w : World),Calls P toS #[.slice a 0 cap] w fun e w' => e = .returned (.slice (some ⟨w.heap.size,0,none⟩) 0 0) ∧ Lo w.heap.size w w' ∧ w'.heap[w.heap.size]? = some (.cells #[] tS)
 all : ∀ (b off len cap : Nat) (w : World) (ids : Nat → ByteArray) (hs cs : Nat → Int) (aa : Nat → Value) (V4 : Nat → Value → Nat → Nat → World → Prop),b < w.heap.size → len ≤ 1099511627776 →
  (∀ j,j < len → w.cell? ⟨b,off + j * 4,none⟩ = some (.string (ids j))) → (∀ j,j < len → w.cell? ⟨b,off + j * 4 + 1,none⟩ = some (.int .i64 (hs j))) →
  (∀ j,j < len → w.cell? ⟨b,off + j * 4 + 2,none⟩ = some (.int .i64 (cs j))) → (∀ j,j < len → w.cell? ⟨b,off + j * 4 + 3,none⟩ = some (aa j)) →
  (∀ j v lo hi w w',V4 j v lo hi w → Hi lo w w' → V4 j v lo hi w') →
  (∀ j,j < len → ∀ w',Lo w.heap.size w w' → Calls P to1 #[.agg #[.string (ids j),.int .i64 (hs j),.int .i64 (cs j),aa j]] w' fun e w'' =>
    ∃ ad n cap,e = .returned (.agg #[.string (ids j),.int .i64 (hs j),.int .i64 (cs j),.slice ad n cap]) ∧ Lo w'.heap.size w' w'' ∧ V4 j (.slice ad n cap) w'.heap.size w''.heap.size w'') →
  Calls P toS #[.slice (some ⟨b,off,none⟩) len cap] w fun e w' => e = .returned (.slice (some ⟨w.heap.size,0,none⟩) len len) ∧ Lo w.heap.size w w' ∧
   ∃ (C : Array Value) (lo hi : Nat → Nat),w'.heap[w.heap.size]? = some (.cells C tS) ∧ C.size = len * 4 ∧ (∀ j,j < len → ∃ ad n cap,C[j * 4]? = some (.string (ids j)) ∧ C[j * 4 + 1]? = some (.int .i64 (hs j)) ∧ C[j * 4 + 2]? = some (.int .i64 (cs j)) ∧ C[j * 4 + 3]? = some (.slice ad n cap) ∧
     V4 j (.slice ad n cap) (lo j) (hi j) w' ∧ w.heap.size < lo j ∧ hi j ≤ w'.heap.size) ∧ ∀ i j,i < j → j < len → hi i ≤ lo j
section
variable {P : Program} {φ : Nat → Nat}
theorem OwnRep.len {z : Nat} {xs : List A} {v : Value} {b : Option Nat} {K : Nat → Prop} {w : World} (h : OwnRep φ w K v z xs b) : ∃ a c,v = .slice a xs.length c := by
 cases h with
 | empty ad z => exact ⟨ad,0,rfl⟩
 | mk b o cap z xs vs hc h0 hzz hr hv hroom => exact ⟨_,_,rfl⟩
theorem CallOk.text {g : Nat} {as : List A} {t : List UInt8} (hc : CallOk P φ g as [.str t] []) {w : World} {K : Nat → Prop} {vs : List Value} (hr : Reps φ w K vs as) (hK : ∀ b,K b → b < w.heap.size) (hG : Glob P K w) :
 Calls P (φ g) vs.toArray w fun e w' => e = .returned (.string ⟨t.toArray⟩) ∧ Lo w.heap.size w w' := by
 refine (hc w K vs [] (Zfw hr) List.nodup_nil (fun _ h => by cases h) hK hG).mono fun e w' ⟨v,he,hb⟩ => ?_
 subst he
 obtain ⟨rvs,K',rb,ob,hv,_,_,hrr,_⟩ := hb.rest
 refine ⟨?_,hb.grow,fun b hb' => hb.frame b hb' (by simp),hb.env.1,hb.env.2⟩
 cases hrr with
 | cons v0 _ _ vs0 _ _ h1 h2 =>
   cases h2
   cases h1 with
   | data _ h3 => cases h3; rw [hv]; rfl
theorem Rg.mono {X Y : Nat → Prop} {w w' : World} (h : Rg X w w') (hx : ∀ c,X c → Y c) : Rg Y w w' := ⟨h.size,fun c hc hy => h.block c hc fun e => hy (hx c e),h.os,h.output⟩
end
structure Z6m (P : Program) (mkS mkT mkI tS : Nat) : Prop where
 run : ∀ (b len cap m0 : Nat) (w : World) (C : Array Value) (ad : Nat → Option Addr) (n cp lo hi : Nat → Nat) (V4 : Nat → World → Prop),
  len ≤ 1048576 → m0 ≤ 4611686018427387 → (∀ j,j < len → n j ≤ 1048576) →
  w.heap[b]? = some (.cells C tS) → C.size = len * 4 → (∀ j,j < len → C[j * 4 + 3]? = some (.slice (ad j) (n j) (cp j))) →
  (∀ j,j < len → b < lo j) → (∀ j,j < len → hi j ≤ w.heap.size) → (∀ i j,i < j → j < len → hi i ≤ lo j) → (∀ j,j < len → V4 j w) →
  (∀ j w w',j < len → V4 j w → (∀ c,lo j ≤ c → c < hi j → w'.heap[c]? = w.heap[c]?) → w.heap.size ≤ w'.heap.size → V4 j w') →
  (∀ (m : Nat) (w' : World),m ≤ 4611686018427387904 → w.heap.size ≤ w'.heap.size → Rg (fun c => c = b ∨ ∃ j,j < len ∧ lo j ≤ c ∧ c < hi j) w w' → Calls P mkT #[.int .i64 m] w' fun e w'' => ∃ t,e = .returned (.string t) ∧ Lo w'.heap.size w' w'') →
  (∀ j,j < len → ∀ (m : Nat) (w' : World),m ≤ 4611686018427387904 → Rg (fun c => c = b ∨ ∃ j,j < len ∧ lo j ≤ c ∧ c < hi j) w w' → V4 j w' → Calls P mkI #[.slice (ad j) (n j) (cp j),.int .i64 m] w' fun e w'' =>
    e = .returned (.int .i64 ((m + n j : Nat) : Int)) ∧ Rg (fun c => lo j ≤ c ∧ c < hi j) w' w'') →
  Calls P mkS #[.slice (some ⟨b,0,none⟩) len cap,.int .i64 m0] w fun e w' => ∃ m : Nat,e = .returned (.int .i64 m) ∧ m ≤ m0 + len * 1048579 ∧ Rg (fun c => c = b ∨ ∃ j,j < len ∧ lo j ≤ c ∧ c < hi j) w w'
section
variable {P : Program} {φ : Nat → Nat}
end
structure Z6u (P : Program) (toX f0 f1 f3 f4 f6 f7 : Nat) : Prop where
 run : ∀ (w : World) (v0 : Value) (v1 : Value) (v3 : Value) (v4 : Value) (v6 : Value) (v7 : Value) (v2 : Int) (v5 : Int) (Q : Nat → Value → Nat → Nat → World → Prop)
  (hP : ∀ x v lo hi w w',Q x v lo hi w → hi ≤ w.heap.size → (∀ c,lo ≤ c → c < hi → w'.heap[c]? = w.heap[c]?) → w.heap.size ≤ w'.heap.size → Q x v lo hi w')
  (h0 : ∀ w',Lo w.heap.size w w' → Calls P f0 #[v0] w' fun e w'' => ∃ ad n cp,e = .returned (.slice ad n cp) ∧ Lo w'.heap.size w' w'' ∧ Q 0 (.slice ad n cp) w'.heap.size w''.heap.size w'')
  (h1 : ∀ w',Lo w.heap.size w w' → Calls P f1 #[v1] w' fun e w'' => ∃ ad n cp,e = .returned (.slice ad n cp) ∧ Lo w'.heap.size w' w'' ∧ Q 1 (.slice ad n cp) w'.heap.size w''.heap.size w'')
  (h3 : ∀ w',Lo w.heap.size w w' → Calls P f3 #[v3] w' fun e w'' => ∃ ad n cp,e = .returned (.slice ad n cp) ∧ Lo w'.heap.size w' w'' ∧ Q 3 (.slice ad n cp) w'.heap.size w''.heap.size w'')
  (h4 : ∀ w',Lo w.heap.size w w' → Calls P f4 #[v4] w' fun e w'' => ∃ ad n cp,e = .returned (.slice ad n cp) ∧ Lo w'.heap.size w' w'' ∧ Q 4 (.slice ad n cp) w'.heap.size w''.heap.size w'')
  (h6 : ∀ w',Lo w.heap.size w w' → Calls P f6 #[v6] w' fun e w'' => ∃ ad n cp,e = .returned (.slice ad n cp) ∧ Lo w'.heap.size w' w'' ∧ Q 6 (.slice ad n cp) w'.heap.size w''.heap.size w'')
  (h7 : ∀ w',Lo w.heap.size w w' → Calls P f7 #[v7] w' fun e w'' => ∃ ad n cp,e = .returned (.slice ad n cp) ∧ Lo w'.heap.size w' w'' ∧ Q 7 (.slice ad n cp) w'.heap.size w''.heap.size w''),Calls P toX #[.agg #[v0,v1,.int .i64 v2,v3,v4,.int .i64 v5,v6,v7]] w fun e w' => ∃ ad0 n0 cp0 lo0 hi0 ad1 n1 cp1 lo1 hi1 ad3 n3 cp3 lo3 hi3 ad4 n4 cp4 lo4 hi4 ad6 n6 cp6 lo6 hi6 ad7 n7 cp7 lo7 hi7,e = .returned (.agg #[.slice ad0 n0 cp0,.slice ad1 n1 cp1,.int .i64 v2,.slice ad3 n3 cp3,.slice ad4 n4 cp4,.int .i64 v5,.slice ad6 n6 cp6,.slice ad7 n7 cp7]) ∧ Lo w.heap.size w w' ∧ Q 0 (.slice ad0 n0 cp0) lo0 hi0 w' ∧ Q 1 (.slice ad1 n1 cp1) lo1 hi1 w' ∧ Q 3 (.slice ad3 n3 cp3) lo3 hi3 w' ∧ Q 4 (.slice ad4 n4 cp4) lo4 hi4 w' ∧ Q 6 (.slice ad6 n6 cp6) lo6 hi6 w' ∧ Q 7 (.slice ad7 n7 cp7) lo7 hi7 w' ∧ w.heap.size + 3 ≤ lo0 ∧ lo0 ≤ hi0 ∧ hi0 ≤ lo1 ∧ lo1 ≤ hi1 ∧ hi1 ≤ lo3 ∧ lo3 ≤ hi3 ∧ hi3 ≤ lo4 ∧ lo4 ≤ hi4 ∧ hi4 ≤ lo6 ∧ lo6 ≤ hi6 ∧ hi6 ≤ lo7 ∧ lo7 ≤ hi7 ∧ hi7 ≤ w'.heap.size
structure Z6p (P : Program) (mkX f0 f1 f3 f4 f6 f7 : Nat) : Prop where
 run : ∀ (w : World) (v0 : Value) (v1 : Value) (v3 : Value) (v4 : Value) (v6 : Value) (v7 : Value) (v2 : Int) (v5 : Int) (m0 : Nat) (lo hi : Nat → Nat)
  (hm : m0 ≤ 1000) (hc : lo 0 ≤ hi 0 ∧ hi 0 ≤ lo 1 ∧ lo 1 ≤ hi 1 ∧ hi 1 ≤ lo 3 ∧ lo 3 ≤ hi 3 ∧ hi 3 ≤ lo 4 ∧ lo 4 ≤ hi 4 ∧ hi 4 ≤ lo 6 ∧ lo 6 ≤ hi 6 ∧ hi 6 ≤ lo 7 ∧ lo 7 ≤ hi 7 ∧ hi 7 ≤ w.heap.size)
  (h0 : ∀ (m : Nat) (w' : World),m ≤ 1125899906842624 → Rg (fun c => lo 0 ≤ c ∧ c < hi 7) w w' → (∀ c,lo 0 ≤ c → c < hi 0 → w'.heap[c]? = w.heap[c]?) → Calls P f0 #[v0,.int .i64 m] w' fun e w'' => ∃ m' : Nat,e = .returned (.int .i64 m') ∧ m' ≤ m + 4398046511104 ∧ Rg (fun c => lo 0 ≤ c ∧ c < hi 0) w' w'')
  (h1 : ∀ (m : Nat) (w' : World),m ≤ 1125899906842624 → Rg (fun c => lo 0 ≤ c ∧ c < hi 7) w w' → (∀ c,lo 1 ≤ c → c < hi 1 → w'.heap[c]? = w.heap[c]?) → Calls P f1 #[v1,.int .i64 m] w' fun e w'' => ∃ m' : Nat,e = .returned (.int .i64 m') ∧ m' ≤ m + 4398046511104 ∧ Rg (fun c => lo 1 ≤ c ∧ c < hi 1) w' w'')
  (h3 : ∀ (m : Nat) (w' : World),m ≤ 1125899906842624 → Rg (fun c => lo 0 ≤ c ∧ c < hi 7) w w' → (∀ c,lo 3 ≤ c → c < hi 3 → w'.heap[c]? = w.heap[c]?) → Calls P f3 #[v3,.int .i64 m] w' fun e w'' => ∃ m' : Nat,e = .returned (.int .i64 m') ∧ m' ≤ m + 4398046511104 ∧ Rg (fun c => lo 3 ≤ c ∧ c < hi 3) w' w'')
  (h4 : ∀ (m : Nat) (w' : World),m ≤ 1125899906842624 → Rg (fun c => lo 0 ≤ c ∧ c < hi 7) w w' → (∀ c,lo 4 ≤ c → c < hi 4 → w'.heap[c]? = w.heap[c]?) → Calls P f4 #[v4,.int .i64 m] w' fun e w'' => ∃ m' : Nat,e = .returned (.int .i64 m') ∧ m' ≤ m + 4398046511104 ∧ Rg (fun c => lo 4 ≤ c ∧ c < hi 4) w' w'')
  (h6 : ∀ (m : Nat) (w' : World),m ≤ 1125899906842624 → Rg (fun c => lo 0 ≤ c ∧ c < hi 7) w w' → (∀ c,lo 6 ≤ c → c < hi 6 → w'.heap[c]? = w.heap[c]?) → Calls P f6 #[v6,.int .i64 m] w' fun e w'' => ∃ m' : Nat,e = .returned (.int .i64 m') ∧ m' ≤ m + 4398046511104 ∧ Rg (fun c => lo 6 ≤ c ∧ c < hi 6) w' w'')
  (h7 : ∀ (m : Nat) (w' : World),m ≤ 1125899906842624 → Rg (fun c => lo 0 ≤ c ∧ c < hi 7) w w' → (∀ c,lo 7 ≤ c → c < hi 7 → w'.heap[c]? = w.heap[c]?) → Calls P f7 #[v7,.int .i64 m] w' fun e w'' => ∃ m' : Nat,e = .returned (.int .i64 m') ∧ m' ≤ m + 4398046511104 ∧ Rg (fun c => lo 7 ≤ c ∧ c < hi 7) w' w''),Calls P mkX #[.agg #[v0,v1,.int .i64 v2,v3,v4,.int .i64 v5,v6,v7],.int .i64 m0] w fun e w' => ∃ m : Nat,e = .returned (.int .i64 m) ∧ m ≤ 1125899906842624 ∧ Rg (fun c => lo 0 ≤ c ∧ c < hi 7) w w'
structure Z6s (P : Program) (law sz sp toX im ep es mkX mp hp : Nat) : Prop where
 en : Entered P law
 run : ∀ (w : World) (v0 : Value) (v1 : Value) (v3 : Value) (v4 : Value) (v6 : Value) (v7 : Value) (v2 : Int) (v5 : Int) (n c0 : Int) (M : Nat) (T : Value → Nat → Nat → World → Prop) (W0 : Value → Nat → World → Prop) (G G2 : Value → Nat → Nat → World → Prop)
  (kT : ∀ v lo hi w w',T v lo hi w → (∀ c,lo ≤ c → c < hi → w'.heap[c]? = w.heap[c]?) → w.heap.size ≤ w'.heap.size → T v lo hi w')
  (kG : ∀ v lo hi w w',G v lo hi w → (∀ c,lo ≤ c → c < hi → w'.heap[c]? = w.heap[c]?) → w.heap.size ≤ w'.heap.size → G v lo hi w')
  (kG2 : ∀ v lo hi w w',G2 v lo hi w → (∀ c,lo ≤ c → c < hi → w'.heap[c]? = w.heap[c]?) → w.heap.size ≤ w'.heap.size → G2 v lo hi w')
  (kW : ∀ v hi w w',W0 v hi w → (∀ c,c < hi → w'.heap[c]? = w.heap[c]?) → w.heap.size ≤ w'.heap.size → W0 v hi w')
  (hSz : ∀ w',Lo w.heap.size w w' → Calls P sz #[.agg #[v0,v1,.int .i64 v2,v3,v4,.int .i64 v5,v6,v7],.int .i64 1048576] w' fun e w'' => e = .returned (.int .i64 n) ∧ Lo w'.heap.size w' w'')
  (hTo : ∀ w',Lo w.heap.size w w' → Calls P toX #[.agg #[v0,v1,.int .i64 v2,v3,v4,.int .i64 v5,v6,v7]] w' fun e w'' => ∃ (ad : Nat → Option Addr) (nn cp : Nat → Nat),e = .returned (.agg #[.slice (ad 0) (nn 0) (cp 0),.slice (ad 1) (nn 1) (cp 1),.int .i64 v2,.slice (ad 3) (nn 3) (cp 3),.slice (ad 4) (nn 4) (cp 4),.int .i64 v5,.slice (ad 6) (nn 6) (cp 6),.slice (ad 7) (nn 7) (cp 7)]) ∧ Lo w'.heap.size w' w'' ∧ T (.agg #[.slice (ad 0) (nn 0) (cp 0),.slice (ad 1) (nn 1) (cp 1),.int .i64 v2,.slice (ad 3) (nn 3) (cp 3),.slice (ad 4) (nn 4) (cp 4),.int .i64 v5,.slice (ad 6) (nn 6) (cp 6),.slice (ad 7) (nn 7) (cp 7)]) w'.heap.size w''.heap.size w'')
  (hSp : ∀ v lo hi,∀ w',Lo w.heap.size w w' → T v lo hi w' → Calls P sp #[v] w' fun e w'' => ∃ ad m cp,e = .returned (.tuple #[.slice ad m cp,.int .i64 c0]) ∧ Lo w'.heap.size w' w'' ∧ W0 (.slice ad m cp) w''.heap.size w'')
  (hIm : ∀ v lo hi,∀ w',Lo w.heap.size w w' → T v lo hi w' → Calls P im #[v] w' fun e w'' => ∃ ad m cp,e = .returned (.tuple #[.slice ad m cp,.int .i64 c0]) ∧ Lo w'.heap.size w' w'' ∧ G (.slice ad m cp) w'.heap.size w''.heap.size w'')
  (hEp : ∀ g lo hi p h0,∀ w',Lo w.heap.size w w' → G g lo hi w' → W0 p h0 w' → Calls P ep #[g,p] w' fun e w'' => e = .returned (.bool true) ∧ Lo w'.heap.size w' w'')
  (hEs : ∀ v lo hi v2 lo2 hi2,∀ w',Lo w.heap.size w w' → T v lo hi w' → T v2 lo2 hi2 w' → Calls P es #[v,v2] w' fun e w'' => e = .returned (.bool true) ∧ Lo w'.heap.size w' w'')
  (hMk : ∀ v lo hi,∀ w',Lo w.heap.size w w' → T v lo hi w' → Calls P mkX #[v,.int .i64 1] w' fun e w'' => ∃ m : Nat,e = .returned (.int .i64 m) ∧ Rg (fun c => lo ≤ c ∧ c < hi) w' w'')
  (hMp : ∀ g lo hi,∀ w',Lo w.heap.size w w' → G g lo hi w' → Calls P mp #[g,.int .i64 1] w' fun e w'' => e = .returned (.int .i64 M) ∧ Rg (fun c => lo ≤ c ∧ c < hi) w' w'' ∧ G2 g lo hi w'')
  (hHp : ∀ g lo hi,∀ w',Lo w.heap.size w w' → G2 g lo hi w' → Calls P hp #[g,.int .i64 1] w' fun e w'' => e = .returned (.int .i64 M) ∧ Lo w'.heap.size w' w''),Calls P law #[.agg #[v0,v1,.int .i64 v2,v3,v4,.int .i64 v5,v6,v7]] w fun e w' => e = .returned (.bool true) ∧ Lo w.heap.size w w'
section
variable {P : Program} {φ : Nat → Nat}
theorem CallOk.truth {g : Nat} {as : List A} {b : Bool} (hc : CallOk P φ g as [.bool b] []) {w : World} {K : Nat → Prop} {vs : List Value} (hr : Reps φ w K vs as) (hK : ∀ b,K b → b < w.heap.size) (hG : Glob P K w) :
 Calls P (φ g) vs.toArray w fun e w' => e = .returned (.bool b) ∧ Lo w.heap.size w w' := CallOk.bool hc hr hK hG
end
section
variable {P : Program} {φ : Nat → Nat}
end
@[reducible] def probE : ET := .agg (.cons (.int .i64) (.cons .str (.cons .str .nil)))
structure Z6t (P : Program) (law sz : Nat) : Prop where
 run : ∀ (w : World) (v0 : Value) (v1 : Value) (v3 : Value) (v4 : Value) (v6 : Value) (v7 : Value) (v2 : Int) (v5 : Int) (n : Int) (hn : n < 0)
  (hSz : ∀ w',Lo w.heap.size w w' → Calls P sz #[.agg #[v0,v1,.int .i64 v2,v3,v4,.int .i64 v5,v6,v7],.int .i64 1048576] w' fun e w'' => e = .returned (.int .i64 n) ∧ Lo w'.heap.size w' w''),
  Calls P law #[.agg #[v0,v1,.int .i64 v2,v3,v4,.int .i64 v5,v6,v7]] w fun e w' => e = .returned (.bool true) ∧ Lo w.heap.size w w'
structure ShopF where
 sz : shopE.ty → Int → Option Int
 sp : shopE.ty → Option (List probE.ty × Int)
 im : shopE.ty → Option (List probE.ty × Int)
 ep : List probE.ty → List probE.ty → Option Bool
 es : shopE.ty → shopE.ty → Option Bool
 t0 : List arcE.ty → Option (List arcE.ty)
 t1 : List neckE.ty → Option (List neckE.ty)
 tI : List Int → Option (List Int)
 t6 : List paperE.ty → Option (List paperE.ty)
 t7 : List entryE.ty → Option (List entryE.ty)
 k0 : List arcE.ty → Int → Option (Int × List arcE.ty)
 k1 : List neckE.ty → Int → Option (Int × List neckE.ty)
 kI : List Int → Int → Option (Int × List Int)
 k6 : List paperE.ty → Int → Option (Int × List paperE.ty)
 k7 : List entryE.ty → Int → Option (Int × List entryE.ty)
 kT : Int → Option (List UInt8)
 mp : List probE.ty → Int → Option (Int × List probE.ty)
 hp : List probE.ty → Int → Option Int
structure ShopF.Pos (F : ShopF) (x : shopE.ty) : Prop where
 hl : List.length (α := stepE.ty) x.2.2.2.1 ≤ 1048576
 hn : ∀ j,j < List.length (α := stepE.ty) x.2.2.2.1 → List.length (α := Int) (stAt x.2.2.2.1 j).2.2.2.1 ≤ 1048576
 h4 : List.length (α := Int) x.2.2.2.2.1 ≤ 1048576
 c0 : F.t0 x.1 = some x.1
 c1 : F.t1 x.2.1 = some x.2.1
 cI : ∀ ns : List Int,ns.length ≤ 1048576 → F.tI ns = some ns
 c6 : F.t6 x.2.2.2.2.2.2.1 = some x.2.2.2.2.2.2.1
 c7 : F.t7 x.2.2.2.2.2.2.2.1 = some x.2.2.2.2.2.2.2.1
 k0 : ∀ m : Nat,m ≤ 1125899906842624 → ∃ (m' : Nat) (ys : List arcE.ty),m' ≤ m + 4398046511104 ∧ F.k0 x.1 m = some ((m' : Int),ys)
 k1 : ∀ m : Nat,m ≤ 1125899906842624 → ∃ (m' : Nat) (ys : List neckE.ty),m' ≤ m + 4398046511104 ∧ F.k1 x.2.1 m = some ((m' : Int),ys)
 kI : ∀ (ns : List Int) (m : Nat),ns.length ≤ 1048576 → m ≤ 4611686018427387904 → ∃ ys : List Int,F.kI ns m = some (((m + ns.length : Nat) : Int),ys)
 k6 : ∀ m : Nat,m ≤ 1125899906842624 → ∃ (m' : Nat) (ys : List paperE.ty),m' ≤ m + 4398046511104 ∧ F.k6 x.2.2.2.2.2.2.1 m = some ((m' : Int),ys)
 k7 : ∀ m : Nat,m ≤ 1125899906842624 → ∃ (m' : Nat) (ys : List entryE.ty),m' ≤ m + 4398046511104 ∧ F.k7 x.2.2.2.2.2.2.2.1 m = some ((m' : Int),ys)
 kT : ∀ m : Nat,m ≤ 4611686018427387904 → ∃ t,F.kT m = some t
 es : F.es x x = some true
 res : ∃ (ps : List probE.ty) (c : Int) (M : Nat) (gs : List probE.ty),F.sp x = some (ps,c) ∧ F.im x = some (ps,c) ∧ F.ep ps ps = some true ∧ F.mp ps 1 = some ((M : Int),gs) ∧ F.hp gs 1 = some (M : Int)
section
variable {P : Program} {φ : Nat → Nat}
end
end Go.Ab
