/- impl.ValidSteps as a callee, out of a walk. Conditions: none. -/
import Derived.Test.YtcadiimcjfakjaaGreatDoorL4
import Derived.Maps.OwnSet
import Derived.Maps.OwnOps
import Derived.Maps.Views
import Derived.StringKeys
import Derived.WalkKit
set_option linter.unusedVariables false
set_option linter.unusedSimpArgs false
namespace Go.Ab
open Go.RowKit Go.Maps
def vsD {H : Type} (ids : Nat → List UInt8) : Nat → DataW H
 | 0 => .map []
 | k + 1 => (vsD ids k).put (.string (ids k)) (.lit (.bool true))
theorem vsD_isMap {H : Type} (ids : Nat → List UInt8) : ∀ n,IsMap (vsD (H := H) ids n)
 | 0 => isMap_empty
 | n + 1 => (vsD_isMap ids n).put _ _
theorem vsD_at {H : Type} (ids : Nat → List UInt8) (k : Nat) : ∀ n,(vsD (H := H) ids n).atKey (.string (ids k)) (.lit (.bool false)) = .lit (.bool (vsSeen ids k n))
 | 0 => by simp [vsD,vsSeen,DataW.atKey]
 | n + 1 => by
   by_cases h : ids n = ids k
   ·simp only [vsD,vsSeen,h,decide_true,Bool.or_true]
    exact atKey_put_same (vsD_isMap ids n) (by trivial) _ _
   ·simp only [vsD,vsSeen,h,decide_false,Bool.or_false]
    rw [atKey_put_other (by intro e; injection e with e; exact h e.symm),vsD_at ids k n]
theorem plainElem_bool_inv {H : Type} {P : Program} {e : TypeId} (he : P.underlying e = some .bool) {v : Value} {z : DataW H × List MemPlace} (h : plainElem P e v = some z) : ∃ a,v = .bool a ∧ z = (.lit (.bool a),[]) := by
 unfold plainElem at h
 rw [he] at h
 split at h
 ·cases h; exact ⟨_,rfl,rfl⟩
 ·rename_i e; cases e
 ·rename_i e; cases e
 ·cases h
theorem wpList_lookup_own_bool {H : Type} {P : Program} (w : World) {ops : Array Oper} {rest : List Oper} {o : Oper} {a : Act} {Q : Exit → Act → World → Prop}
 (hg : Region.wanted o (yielded ops a.tmps) = true) (m x : Operand) (t : TypeId) (hop : o.op = Op.lookup t m x false)
 (k e : TypeId) (K : Keyed P k) (ht : P.underlying t = some (.map k e)) (he : P.underlying e = some .bool) (hz : (zeroValue e).run P w = .ok (.bool false) w) (b n : Nat) (D : DataW H)
 (hm : a.eval m = .map (some b)) (hown : w.ownsMap P k (plainElem P e) b n D) (key : Value) (kl : Lit) (hx : a.eval x = key) (hkey : keyOf P k key = some kl) (c : Bool)
 (hc : D.atKey kl (.lit (.bool false)) = .lit (.bool c))
 (hK : wpList P ops Q rest (a.put o.dst (.bool c)) w) :
 wpList P ops Q (o :: rest) a w := by
 refine wpList_step fun K' hK' => ?_
 rw [if_pos hg]
 obtain ⟨v,ps,hrun,hv⟩ := hown.lookup K ht hz (plainElem_bool he false) hkey
 obtain ⟨c',rfl,hc'⟩ := plainElem_bool_inv he hv
 simp only [Prod.mk.injEq] at hc'
 rw [hc] at hc'
 obtain ⟨hc',_⟩ := hc'
 injection hc' with hc'
 injection hc' with hc'
 subst hc'
 unfold Oper.wp
 simp [execOp,hop,hm,hx,hrun,Result.andThen]
 exact hK' _ _ hK
theorem cell_new4 (w : World) (C : Array Value) (t : TypeId) (j : Nat) (v : Value) (h : C[j]? = some v) : (w.alloc (.cells C t)).cell? ⟨w.heap.size,j,none⟩ = some v := by
 simp only [World.cell?,World.alloc,Array.getElem?_push_size]
 exact h
theorem cell_old (w : World) (o : Obj) (b : Nat) (j : Nat) (h : b < w.heap.size) : (w.alloc o).cell? ⟨b,j,none⟩ = w.cell? ⟨b,j,none⟩ := by
 simp only [World.cell?,World.alloc]
 rw [Array.getElem?_push_lt h,Array.getElem?_eq_getElem h]
theorem size_alloc (w : World) (o : Obj) : (w.alloc o).heap.size = w.heap.size + 1 := by simp
structure Lo (B : Nat) (w w' : World) : Prop where
 size : w.heap.size ≤ w'.heap.size
 block : ∀ b,b < B → w'.heap[b]? = w.heap[b]?
 os : w'.os = w.os
 output : w'.output = w.output
theorem Lo.refl (B : Nat) (w : World) : Lo B w w := ⟨Nat.le_refl _,fun _ _ => rfl,rfl,rfl⟩
theorem Lo.mono {B B' : Nat} {w w' : World} (h : Lo B w w') (hB : B' ≤ B) : Lo B' w w' := ⟨h.size,fun b hb => h.block b (Nat.lt_of_lt_of_le hb hB),h.os,h.output⟩
theorem Lo.trans {B : Nat} {w w1 w2 : World} (h : Lo B w w1) (h' : Lo B w1 w2) : Lo B w w2 := ⟨Nat.le_trans h.size h'.size,fun b hb => (h'.block b hb).trans (h.block b hb),h'.os.trans h.os,h'.output.trans h.output⟩
theorem Lo.of_below {B : Nat} {w w' : World} (h : Below B w w') : Lo B w w' := ⟨h.size,h.block,h.os,h.output⟩
theorem Lo.alloc {B : Nat} {w w1 : World} (h : Lo B w w1) (hB : B ≤ w1.heap.size) (o : Obj) : Lo B w (w1.alloc o) := h.trans (.of_below ((Below.refl B w1).alloc hB o))
theorem Lo.grown {B : Nat} {w w1 w2 : World} {row : Option Nat} (h : Lo B w w1) (hg : w1.grownBy w2 row) (hB : B ≤ w1.heap.size) (hr : ∀ j,row = some j → B ≤ j) : Lo B w w2 := h.trans (.of_below ((Below.refl B w1).grown hg hB hr))
theorem Lo.cell {B : Nat} {w w' : World} (h : Lo B w w') {b j : Nat} (hb : b < B) : w'.cell? ⟨b,j,none⟩ = w.cell? ⟨b,j,none⟩ := by
 simp only [World.cell?,h.block b hb]
theorem ownsMap_below {H : Type} {P : Program} {k : TypeId} {R : Value → Option (DataW H × List MemPlace)} {w w' : World} {b n : Nat} {D : DataW H} (h : w.ownsMap P k R b n D) (hb : Lo w.heap.size w w') : w'.ownsMap P k R b n D := by
 have hl := h.lt
 obtain ⟨es,clock,h1,h2⟩ := h
 exact ⟨es,clock,(hb.block b hl).trans h1,h2⟩
section
variable {P : Program} {φ : Nat → Nat}
theorem argReps_of {w : World} {K : Nat → Prop} : ∀ {vs : List Value} {as : List A},Reps φ w K vs as → ArgReps φ w K vs as []
 | _,_,.nil => .nil
 | _,_,.cons v a vs as h t => .cons _ _ [] _ _ [] (.data _ _ h) (argReps_of t)
theorem CallOk.of_lo {g : Nat} {as res : List A} (hn : as.any lentA = false)
 (h : ∀ (w : World) (K : Nat → Prop) (vs : List Value),Reps φ w K vs as → (∀ b,K b → b < w.heap.size) → Glob P K w →
   Calls P (φ g) vs.toArray w fun e w' => ∃ rvs,e = .returned (packV rvs) ∧ Lo w.heap.size w w' ∧ Reps φ w (fun _ => False) rvs res) : CallOk P φ g as res [] := by
 intro w K vs bs ha hnd hKb hKz hG
 obtain ⟨hr,rfl⟩ := ha.noLent hn
 refine (h w K vs hr hKz hG).mono fun e w' hh => ?_
 obtain ⟨rvs,rfl,hb,h3⟩ := hh
 refine ⟨_,rfl,hb.size,fun b hb' _ => hb.block b hb',⟨hb.os,hb.output⟩,fun b off hb' => frozen?_block (hb.block b hb') off,fun b n hr => hr.of_block (hb.block b hr.lt),?_⟩
 exact ⟨rvs,K,[],[],rfl,fun _ h => h,fun _ h => .inl h,ResReps.of_reps (h3.mono (fun _ h => h.elim) (fun _ h => h.elim)),OutReps.data_all ha.len hn,by simp,fun b hb' => by simp at hb'⟩
theorem CallOk.bool {g : Nat} {as : List A} {b : Bool} (hc : CallOk P φ g as [.bool b] []) {w : World} {K : Nat → Prop} {vs : List Value} (hr : Reps φ w K vs as) (hK : ∀ b,K b → b < w.heap.size) (hG : Glob P K w) :
 Calls P (φ g) vs.toArray w fun e w' => e = .returned (.bool b) ∧ Lo w.heap.size w w' := by
 refine (hc w K vs [] (argReps_of hr) List.nodup_nil (fun _ h => by cases h) hK hG).mono fun e w' ⟨v,he,hb⟩ => ?_
 subst he
 obtain ⟨rvs,K',rb,ob,hv,_,_,hrr,_⟩ := hb.rest
 refine ⟨?_,hb.grow,fun b hb' => hb.frame b hb' (by simp),hb.env.1,hb.env.2⟩
 cases hrr with
 | cons v0 _ _ vs0 _ _ h1 h2 =>
   cases h2
   cases h1 with
   | data _ h3 => cases h3; rw [hv]; rfl
theorem at_step (xs : List stepE.ty) {j : Nat} (hj : j < xs.length) : (xs.map stepE.enc)[j]? = some (stepE.enc (stAt xs j)) := by
 simp only [List.getElem?_map,stAt,List.getElem?_eq_getElem hj,Option.map_some,Option.getD_some]
theorem step_at {w : World} {K : Nat → Prop} {xs : List stepE.ty} {cvs : List Value} {b o : Nat} (h : Reps φ w K cvs ((xs.map stepE.enc).flatMap A.cells)) (hv : Cells w b o cvs) {j : Nat} (hj : j < xs.length) :
 ∃ (a : Option Addr) (ac : Nat),w.cell? ⟨b,o + j * 4,none⟩ = some (.string ⟨(stAt xs j).1.toArray⟩) ∧ w.cell? ⟨b,o + j * 4 + 1,none⟩ = some (.int .i64 (stAt xs j).2.1) ∧
   w.cell? ⟨b,o + j * 4 + 2,none⟩ = some (.int .i64 (stAt xs j).2.2.1) ∧ w.cell? ⟨b,o + j * 4 + 3,none⟩ = some (.slice a (List.length (α := Int) (stAt xs j).2.2.2.1) ac) ∧
   (0 < List.length (α := Int) (stAt xs j).2.2.2.1 → ∃ c p,a = some ⟨c,p,none⟩ ∧ K c ∧ w.cell? ⟨c,p + (List.length (α := Int) (stAt xs j).2.2.2.1 - 1),none⟩ = some (.int .i64 (List.getLastD (α := Int) (stAt xs j).2.2.2.1 0))) ∧
   Reps φ w K [.agg #[.string ⟨(stAt xs j).1.toArray⟩,.int .i64 (stAt xs j).2.1,.int .i64 (stAt xs j).2.2.1,.slice a (List.length (α := Int) (stAt xs j).2.2.2.1) ac]] [stepE.enc (stAt xs j)] := by
 have hz : ∀ x ∈ xs.map stepE.enc,x.cells.length = 4 := fun x hx => by
  obtain ⟨y,_,rfl⟩ := List.mem_map.1 hx
  exact ET.enc_z stepE y
 have he := Reps.elem hz h (at_step xs hj)
 rw [ET.enc_z] at he
 have hc := (hv.drop (j * 4)).take 4
 have hz4 : stepE.z = 4 := rfl
 rw [hz4] at he
 generalize (cvs.drop (j * 4)).take 4 = us at he hc
 generalize stAt xs j = st at he ⊢
 obtain ⟨s1,s2,s3,s4,⟨⟩⟩ := st
 have he' : Reps φ w K us [.str s1,.int .i64 s2,.int .i64 s3,.sl 1 (s4.map (ET.enc (.one (.int .i64))))] := he
 cases he' with
 | cons v1 _ us _ h1 t =>
 cases t with
 | cons v2 _ us _ h2 t =>
 cases t with
 | cons v3 _ us _ h3 t =>
 cases t with
 | cons v4 _ us _ h4 t =>
 cases t
 have g0 := hc 0 _ rfl
 have g1 := hc 1 _ rfl
 have g2 := hc 2 _ rfl
 have g3 := hc 3 _ rfl
 rw [Nat.add_zero] at g0
 cases h1; cases h2; cases h3
 have fin : ∀ (a : Option Addr) (ac : Nat),v4 = .slice a s4.length ac → Rep φ w K (.agg #[.string ⟨s1.toArray⟩,.int .i64 s2,.int .i64 s3,v4]) (stepE.enc (s1,s2,s3,s4,())) := fun a ac _ =>
  .agg [_,_,_,_] _ (.cons _ _ _ _ (.str s1) (.cons _ _ _ _ (.int _ _) (.cons _ _ _ _ (.int _ _) (.cons _ _ _ _ h4 .nil))))
 generalize hys : s4.map (ET.enc (.one (.int .i64))) = ys at h4
 cases h4 with
 | slE ad cap z =>
   obtain rfl : s4 = [] := by cases s4 with | nil => rfl | cons => simp at hys
   exact ⟨ad,cap,g0,g1,g2,g3,fun h => absurd h (Nat.lt_irrefl _),.cons _ _ _ _ (fin _ _ rfl) .nil⟩
 | sl bk p cap z _ cs hb hzz hcap hh hv' =>
   have hl : ys.length = s4.length := by rw [← hys,List.length_map]
   rw [hl] at g3
   refine ⟨some ⟨bk,p,none⟩,cap,g0,g1,g2,g3,fun h => ⟨bk,p,rfl,hb,?_⟩,.cons _ _ _ _ (by have := fin (some ⟨bk,p,none⟩) cap (by rw [hl]); rwa [hl] at this) .nil⟩
   have e1 : ys.flatMap A.cells = s4.map fun n => A.int .i64 n := by
    rw [← hys]
    clear hys hl hv' hcap hzz hh g0 g1 g2 g3 fin h hv he hc
    induction s4 with
    | nil => rfl
    | cons n l ih => rw [List.map_cons,List.flatMap_cons,ih]; rfl
   rw [e1] at hh
   have e2 : (s4.map fun n => A.int .i64 n)[s4.length - 1]? = some (.int .i64 (s4.getLastD 0)) := by
    cases s4 with
    | nil => exact absurd h (Nat.lt_irrefl _)
    | cons n l =>
      rw [List.getElem?_map,← List.getLast?_eq_getElem?,List.getLast?_cons,List.getLastD_cons]
      cases l <;> rfl
   obtain ⟨u,hu1,hu2⟩ := hh.get e2
   cases hu2
   exact hv' _ _ hu1
structure VsWalk (P : Program) (r v f : Nat) : Prop where
 en : Entered P r
 none : ∀ (a : Option Addr) (cap : Nat) (w : World) (fin : Bool),
  (∀ w',Lo w.heap.size w w' → Calls P f #[.int .i64 0,.int .i64 12] w' fun e w'' => e = .returned (.bool fin) ∧ Lo w'.heap.size w' w'') →
  Calls P r #[.slice a 0 cap] w fun e w' => e = .returned (.bool fin) ∧ Lo w.heap.size w w'
 run : ∀ (b off len cap : Nat) (w : World) (ids : Nat → List UInt8) (hs cs : Nat → Int) (aa : Nat → Option Addr) (al ac : Nat → Nat) (ok : Nat → Bool) (last : Nat → Int) (fin : Bool),
  b < w.heap.size → len ≤ 9223372036854775807 →
  (∀ j,j < len → w.cell? ⟨b,off + j * 4,Option.none⟩ = some (.string ⟨(ids j).toArray⟩)) →
  (∀ j,j < len → w.cell? ⟨b,off + j * 4 + 1,Option.none⟩ = some (.int .i64 (hs j))) →
  (∀ j,j < len → w.cell? ⟨b,off + j * 4 + 2,Option.none⟩ = some (.int .i64 (cs j))) →
  (∀ j,j < len → w.cell? ⟨b,off + j * 4 + 3,Option.none⟩ = some (.slice (aa j) (al j) (ac j))) →
  (∀ j,j < len → 0 < al j → ∃ c o,aa j = some ⟨c,o,Option.none⟩ ∧ c < w.heap.size ∧ al j ≤ 9223372036854775807 ∧ w.cell? ⟨c,o + (al j - 1),Option.none⟩ = some (.int .i64 (last j))) →
  (∀ j,j < len → (ids j).length ≤ 9223372036854775807) →
  (∀ j,j < len → ∀ w',Lo w.heap.size w w' → Calls P v #[.agg #[.string ⟨(ids j).toArray⟩,.int .i64 (hs j),.int .i64 (cs j),.slice (aa j) (al j) (ac j)]] w' fun e w'' => e = .returned (.bool (ok j)) ∧ Lo w'.heap.size w' w'') →
  (∀ w',Lo w.heap.size w w' → Calls P f #[.int .i64 len,.int .i64 12] w' fun e w'' => e = .returned (.bool fin) ∧ Lo w'.heap.size w' w'') →
  Calls P r #[.slice (some ⟨b,off,Option.none⟩) len cap] w fun e w' => e = .returned (.bool (vsGo ids al last ok fin len 0)) ∧ Lo w.heap.size w w'
theorem validSteps_ok {vC : stepE.ty → Option Bool} {fC : Int → Int → Option Bool} {gv gf r g : Nat} (h : VsWalk P r (φ gv) (φ gf)) (hv : ∀ x b,vC x = some b → CallOk P φ gv [stepE.enc x] [.bool b] [])
 (hf : ∀ m n b,fC m n = some b → CallOk P φ gf [.int .i64 m,.int .i64 n] [.bool b] []) (hφ : φ g = r) : FOk P φ g (validStepsC vC fC) := by
 refine FOk.of_contract (by rw [hφ]; exact h.en) rfl rfl fun x y hy0 => ?_
 obtain ⟨xs,⟨⟩⟩ := x
 have hy : vsF vC fC xs = some y := hy0
 unfold vsF at hy
 split at hy
 ·rename_i hc
  obtain ⟨hc1,hc2⟩ := Bool.and_eq_true_iff.1 hc
  have hlen : xs.length ≤ 9223372036854775807 := of_decide_eq_true hc2
  have hall : ∀ j,j < xs.length → (vC (stAt xs j)).isSome = true ∧ List.length (α := UInt8) (stAt xs j).1 ≤ 9223372036854775807 ∧ List.length (α := Int) (stAt xs j).2.2.2.1 ≤ 9223372036854775807 := fun j hj => by
   have h1 := List.all_eq_true.1 hc1 (stAt xs j) (by simp only [stAt,List.getElem?_eq_getElem hj,Option.getD_some]; exact List.getElem_mem hj)
   obtain ⟨h2,h3⟩ := Bool.and_eq_true_iff.1 h1
   obtain ⟨h4,h5⟩ := Bool.and_eq_true_iff.1 h3
   exact ⟨h2,of_decide_eq_true h4,of_decide_eq_true h5⟩
  obtain ⟨fin,hfin,hy⟩ := Option.bind_eq_some_iff.1 hy
  obtain rfl := Option.some.inj hy
  refine CallOk.of_lo rfl fun w K vs hr hK hG => ?_
  have hr : Reps φ w K vs [.sl 4 (xs.map stepE.enc)] := hr
  have keep : ∀ w',Lo w.heap.size w w' → (∀ b,K b → b < w'.heap.size) ∧ Glob P K w' := fun w' hw =>
   ⟨fun b hb => Nat.lt_of_lt_of_le (hK b hb) hw.size,hG.on (fun _ h => h) fun b hb => hw.block b (hK b hb)⟩
  have hF : ∀ w',Lo w.heap.size w w' → Calls P (φ gf) #[.int .i64 xs.length,.int .i64 12] w' fun e w'' => e = .returned (.bool fin) ∧ Lo w'.heap.size w' w'' := fun w' hw =>
   CallOk.bool (hf _ _ _ hfin) (vs := [_,_]) (K := K) (.cons _ _ _ _ (.int _ _) (.cons _ _ _ _ (.int _ _) .nil)) (keep w' hw).1 (keep w' hw).2
  have done : ∀ {v : Value} {b : Bool},(Calls P r #[v] w fun e w' => e = .returned (.bool b) ∧ Lo w.heap.size w w') →
   Calls P (φ g) [v].toArray w fun e w' => ∃ rvs,e = .returned (packV rvs) ∧ Lo w.heap.size w w' ∧ Reps φ w (fun _ => False) rvs [A.bool b] := fun hh => by
   rw [hφ]
   exact Calls.mono hh fun e w' hh => ⟨[_],hh.1,hh.2,.cons _ _ _ _ (.bool _) .nil⟩
  cases hr with
  | cons v _ vs _ hv1 t =>
  cases t
  generalize hys : xs.map stepE.enc = ys at hv1
  cases hv1 with
  | slE ad cap z =>
    obtain rfl : xs = [] := by cases xs with | nil => rfl | cons => simp at hys
    exact done (h.none ad cap w fin hF)
  | sl b o cap z _ cvs hb hz hcap hh hcl =>
    subst hys
    rw [List.length_map]
    refine done (h.run b o xs.length cap w _ (fun j => (stAt xs j).2.1) (fun j => (stAt xs j).2.2.1) (fun j => if hj : j < xs.length then (step_at hh hcl hj).choose else Option.none) _
     (fun j => if hj : j < xs.length then (step_at hh hcl hj).choose_spec.choose else 0) _ _ fin (hK _ hb) hlen (fun j hj => (step_at hh hcl hj).choose_spec.choose_spec.1) (fun j hj => (step_at hh hcl hj).choose_spec.choose_spec.2.1)
     (fun j hj => (step_at hh hcl hj).choose_spec.choose_spec.2.2.1) (fun j hj => ?_) (fun j hj hp => ?_) (fun j hj => (hall j hj).2.1) (fun j hj w' hw => ?_) hF)
    ·rw [dif_pos hj,dif_pos hj]
     exact (step_at hh hcl hj).choose_spec.choose_spec.2.2.2.1
    ·obtain ⟨c,p,e1,e2,e3⟩ := (step_at hh hcl hj).choose_spec.choose_spec.2.2.2.2.1 hp
     rw [dif_pos hj]
     exact ⟨c,p,e1,hK c e2,(hall j hj).2.2,e3⟩
    ·rw [dif_pos hj,dif_pos hj]
     obtain ⟨b',hb'⟩ := Option.isSome_iff_exists.1 (hall j hj).1
     have hrep := (step_at hh hcl hj).choose_spec.choose_spec.2.2.2.2.2
     have := CallOk.bool (hv _ _ hb') (hrep.mono (fun b hb => hw.block b (hK b hb)) fun _ h => h) (keep w' hw).1 (keep w' hw).2
     rw [hb']
     exact this
 ·cases hy
theorem callOk_one {D : List (Nat × Callee)} {H : List (Nat × ET)} {fn : Fn} {E R : ET} {g : Nat} (h : FOk P φ g (mkCallee D H fn [.d E] [.d R] [])) {x : E.ty} {y : R.ty} (hf : (mkCallee D H fn [.d E] [.d R] []).f (x,()) = some y) :
 CallOk P φ g [E.enc x] [R.enc y] [] := by
 have e : (mkCallee D H fn [.d E] [.d R] []).cf [E.enc x] = some ([R.enc y],[]) := by
  rw [Callee.cf_eq (c := mkCallee D H fn [.d E] [.d R] []) (as := [E.enc x]) (x := (x,())) rfl (by
   show normU [MT.d E] [E.enc x] = [(E.v x).a]
   rw [dOnly_norm rfl,ET.v_a]),hf]
  show some ([(R.v y).a],[]) = _
  rw [ET.v_a]
 exact h.2 _ _ _ e
theorem callOk_two {D : List (Nat × Callee)} {H : List (Nat × ET)} {fn : Fn} {E E' R : ET} {g : Nat} (h : FOk P φ g (mkCallee D H fn [.d E,.d E'] [.d R] [])) {x : E.ty} {x' : E'.ty} {y : R.ty} (hf : (mkCallee D H fn [.d E,.d E'] [.d R] []).f (x,x',()) = some y) :
 CallOk P φ g [E.enc x,E'.enc x'] [R.enc y] [] := by
 have e : (mkCallee D H fn [.d E,.d E'] [.d R] []).cf [E.enc x,E'.enc x'] = some ([R.enc y],[]) := by
  rw [Callee.cf_eq (c := mkCallee D H fn [.d E,.d E'] [.d R] []) (as := [E.enc x,E'.enc x']) (x := (x,x',())) rfl (by
   show normU [MT.d E,.d E'] [E.enc x,E'.enc x'] = [(E.v x).a,(E'.v x').a]
   rw [dOnly_norm rfl,ET.v_a,ET.v_a]),hf]
  show some ([(R.v y).a],[]) = _
  rw [ET.v_a]
 exact h.2 _ _ _ e
end
end Go.Ab
