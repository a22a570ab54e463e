/- The abstract interpreter and its soundness, third part. Conditions: none. -/
import Derived.Test.YtmflggnljccofaaGreatDoorL2
import Derived.Orders
set_option linter.unusedVariables false
set_option linter.unusedSimpArgs false
namespace Go.Ab
section
variable {st st' : St} {cf : CF} {io : Nat → List Bool}
theorem opdU_v {x : Opd} (h : ∀ i ∈ opdU x,st.t i = st'.t i) : x.v st = x.v st' := by
 cases x with
 | t i => exact h i (by simp [opdU])
 | c a => rfl
theorem optU_v {x : Option Opd} (h : ∀ i ∈ optU x,st.t i = st'.t i) : x.map (Opd.v st) = x.map (Opd.v st') := by
 cases x with
 | none => rfl
 | some x => simp [opdU_v (x := x) h]
theorem listU_v : ∀ {xs : List Opd},(∀ i ∈ xs.flatMap opdU,st.t i = st'.t i) → xs.map (Opd.v st) = xs.map (Opd.v st')
 | [],_ => rfl
 | x :: xs,h => by
   rw [List.map_cons,List.map_cons,opdU_v (x := x) fun i hi => h i (by simp [hi]),listU_v (xs := xs) fun i hi => h i (by rw [List.flatMap_cons]; exact List.mem_append_right _ hi)]
theorem fillA_v (hr : st.r = st'.r) : ∀ {ps : List (Nat × Nat × Opd)} {cs : List A},(∀ i ∈ ps.flatMap (fun p => opdU p.2.2),st.t i = st'.t i) → fillA st cs ps = fillA st' cs ps
 | [],_,_ => rfl
 | (off,z,x) :: ps,cs,h => by
   have hx := opdU_v (x := x) fun i hi => h i (by simp [hi])
   simp only [fillA,hx,hr]
   have ih : ∀ cs',fillA st cs' ps = fillA st' cs' ps := fun cs' => fillA_v hr fun i hi => h i (by rw [List.flatMap_cons]; exact List.mem_append_right _ hi)
   simp only [ih]
theorem fillS_v (hr : st.r = st'.r) {z : Nat} : ∀ {ps : List (Nat × Opd)} {cs : List A},(∀ i ∈ ps.flatMap (fun p => opdU p.2),st.t i = st'.t i) → fillS st z cs ps = fillS st' z cs ps
 | [],_,_ => rfl
 | (j,x) :: ps,cs,h => by
   have hx := opdU_v (x := x) fun i hi => h i (by simp [hi])
   have ih : ∀ cs',fillS st z cs' ps = fillS st' z cs' ps := fun cs' => fillS_v hr fun i hi => h i (by rw [List.flatMap_cons]; exact List.mem_append_right _ hi)
   simp only [fillS,hx,ih]
theorem args0_v (hr : st.r = st'.r) : ∀ {xs : List Opd},(∀ i ∈ xs.flatMap opdU,st.t i = st'.t i) → args0 st xs = args0 st' xs
 | [],_ => rfl
 | x :: xs,h => by
   have hx := opdU_v (x := x) fun i hi => h i (by simp [hi])
   have ih := args0_v hr (xs := xs) fun i hi => h i (by rw [List.flatMap_cons]; exact List.mem_append_right _ hi)
   simp only [args0,hx,hr,ih]
theorem evalV_congr (hr : st.r = st'.r) {d : Option Nat} {o : O} (h : ∀ i ∈ uses o,st.t i = st'.t i) : evalV cf io d st o = evalV cf io d st' o := by
 cases o with
 | mv x | asg x | nilck x | un _ x | conv _ x | fa _ x | fld _ _ x | len x | lens x | ext x _ | ld _ x =>
   have hx := opdU_v (x := x) (st := st) (st' := st') h
   simp only [evalV,hx,hr]
 | box | alloc | sto | app => rfl
 | pick c a b =>
   have h1 := opdU_v (x := c) (st := st) (st' := st') fun i hi => h i (by simp [uses,hi])
   have h2 := opdU_v (x := a) (st := st) (st' := st') fun i hi => h i (by simp [uses,hi])
   have h3 := opdU_v (x := b) (st := st) (st' := st') fun i hi => h i (by simp [uses,hi])
   simp only [evalV,h1,h2,h3]
 | build z ps => simp only [evalV,fillA_v hr (ps := ps) h]
 | bsl z zero n ps => simp only [evalV,fillS_v hr (ps := ps) h]
 | bin _ x y | eqs _ _ x y | eqb _ x y | ia _ x y | iaa _ _ x y | ix x y | ixa _ _ _ x y | mks _ _ _ x y =>
   have h1 := opdU_v (x := x) (st := st) (st' := st') fun i hi => h i (by simp [uses,hi])
   have h2 := opdU_v (x := y) (st := st) (st' := st') fun i hi => h i (by simp [uses,hi])
   simp only [evalV,h1,h2,hr]
 | slc _ x lo hi | slcs x lo hi =>
   have h1 := opdU_v (x := x) (st := st) (st' := st') fun i hi => h i (by simp [uses,hi])
   have h2 := optU_v (x := lo) (st := st) (st' := st') fun i hi => h i (by simp [uses,hi])
   have h3 := optU_v (x := hi) (st := st) (st' := st') fun i hi => h i (by simp [uses,hi])
   simp only [evalV,h1,h2,h3,hr]
 | max xs | min xs | mkf _ xs =>
   have h1 := listU_v (xs := xs) (st := st) (st' := st') h
   simp only [evalV,h1,hr]
 | call f args =>
   have h1 := opdU_v (x := f) (st := st) (st' := st') fun i hi => h i (by simp [uses,hi])
   have h2 := listU_v (xs := args) (st := st) (st' := st') fun i hi => h i (by simp only [uses]; exact List.mem_append_right _ hi)
   have h3 := args0_v hr (xs := args) fun i hi => h i (by simp only [uses]; exact List.mem_append_right _ hi)
   simp only [evalV,h1,h2,h3,hr]
def stepG (cf : CF) (io : Nat → List Bool) (all : List Op) (st : St) (o : Op) : Option St :=
 match guardOf all st o.g with
 | some true => step cf io st o
 | some false => some (st.put o.d .undef)
 | none => none
theorem runOps_cons (all : List Op) (o : Op) (l : List Op) (st : St) : runOps cf io all (o :: l) st = (stepG cf io all st o).bind (runOps cf io all l) := by
 simp only [runOps,stepG]
 cases guardOf all st o.g with
 | none => rfl
 | some b => cases b <;> rfl
def guardU (all : List Op) : Option (Nat × Bool) → List Nat
 | none => []
 | some (j,_) => match (all[j]?).bind (·.d) with | some d => [d] | none => []
def resG (cf : CF) (io : Nat → List Bool) (all : List Op) (st : St) (o : Op) : Option A :=
 match guardOf all st o.g with
 | some true => (evalV cf io o.d st o.o).bind fun v => if readOk st o v then some v else none
 | some false => some .undef
 | none => none
theorem stepG_res {all : List Op} {o : Op} (hw : o.w = false) (st : St) : stepG cf io all st o = (resG cf io all st o).map (st.put o.d) := by
 simp only [stepG,resG,step,hw]
 split
 ·simp only [Bool.false_eq_true,if_false]
  cases evalV cf io o.d st o.o with
  | none => rfl
  | some v =>
    simp only [Option.bind_some]
    split <;> rfl
 ·rfl
 ·rfl
theorem guardOf_congr {all : List Op} {g : Option (Nat × Bool)} (h : ∀ i ∈ guardU all g,st.t i = st'.t i) : guardOf all st g = guardOf all st' g := by
 cases g with
 | none => rfl
 | some p =>
   obtain ⟨j,b⟩ := p
   simp only [guardOf]
   simp only [guardU] at h
   cases hd : (all[j]?).bind (·.d) with
   | none => rfl
   | some d => rw [hd] at h; simp only; rw [h d (by simp)]
def flagU (o : Op) : List Nat := if o.av.contains gs then (match o.d with | some s => [s] | none => []) else []
theorem okV_congr {o : O} {v : A} (h : ∀ k ∈ uses o,st.t k = st'.t k ∧ ∀ p i c,(st.t k = .loc p i c ∨ st.t k = .view p i c) → st.r p = st'.r p) : okV st o v = okV st' o v := by
 unfold okV
 congr 1
 have key : ∀ (n : Option Nat) (k : Nat),o = .ld n (.t k) → (match st.t k with | .loc q _ _ => (match st.r q with | some R => R.b | none => false) | _ => false) = (match st'.t k with | .loc q _ _ => (match st'.r q with | some R => R.b | none => false) | _ => false) := fun n k e => by
  obtain ⟨h1,h2⟩ := h k (by rw [e]; simp [uses,opdU])
  rw [← h1]
  split
  ·rename_i q i c hq; rw [h2 q i c (.inl hq)]
  ·rfl
 cases v <;> first
  | rfl
  | (cases o <;> first
      | rfl
      | (rename_i x; cases x <;> rfl)
      | (rename_i u x; cases x <;> rfl)
      | (rename_i u x w; cases x <;> rfl)
      | (rename_i u w x z; cases x <;> rfl)
      | (rename_i n x
         cases x with
         | c a => rfl
         | t k => exact key n k rfl))
theorem readOk_congr' {o : Op} {v : A} (hk : gs + 1 ∈ o.av → okV st o.o v = okV st' o.o v) (hk2 : gs + 2 ∈ o.av → thereV st v = thereV st' v) (h : ∀ i ∈ uses o.o ++ flagU o,st.t i = st'.t i) : readOk st o v = readOk st' o v := by
 have hu : ∀ k ∈ uses o.o,st.t k = st'.t k := fun k hk => h k (List.mem_append_left _ hk)
 have e1 : ∀ d,((uses o.o).all fun k => staysA (some d) (st.t k)) = (uses o.o).all fun k => staysA (some d) (st'.t k) := fun d => by
  rw [Bool.eq_iff_iff,List.all_eq_true,List.all_eq_true]
  exact ⟨fun e k hk => by rw [← hu k hk]; exact e k hk,fun e k hk => by rw [hu k hk]; exact e k hk⟩
 have e2 : ∀ d ∈ o.av,(if d = gs then (match o.d with | some s => isAny (st.t s) | none => false) else if d = gs + 1 then okV st o.o v else if d = gs + 2 then thereV st v else staysV (some d) v && (uses o.o).all fun k => staysA (some d) (st.t k)) = (if d = gs then (match o.d with | some s => isAny (st'.t s) | none => false) else if d = gs + 1 then okV st' o.o v else if d = gs + 2 then thereV st' v else staysV (some d) v && (uses o.o).all fun k => staysA (some d) (st'.t k)) := fun d hd => by
  by_cases hg : d = gs
  ·rw [if_pos hg,if_pos hg]
   cases hs : o.d with
   | none => rfl
   | some s =>
     have : st.t s = st'.t s := h s (List.mem_append_right _ (by
      have hc : o.av.contains gs = true := by rw [← hg]; simpa using hd
      simp only [flagU,hc,if_true,hs,List.mem_singleton]))
     simp only [this]
  ·rw [if_neg hg,if_neg hg]
   by_cases hg1 : d = gs + 1
   ·rw [if_pos hg1,if_pos hg1]; exact hk (hg1 ▸ hd)
   ·rw [if_neg hg1,if_neg hg1]
    by_cases hg2 : d = gs + 2
    ·rw [if_pos hg2,if_pos hg2]; exact hk2 (hg2 ▸ hd)
    ·rw [if_neg hg2,if_neg hg2,e1]
 have e3 : ∀ l : List Nat,(∀ d ∈ l,d ∈ o.av) → (l.all fun d => if d = gs then (match o.d with | some s => isAny (st.t s) | none => false) else if d = gs + 1 then okV st o.o v else if d = gs + 2 then thereV st v else staysV (some d) v && (uses o.o).all fun k => staysA (some d) (st.t k)) = l.all fun d => if d = gs then (match o.d with | some s => isAny (st'.t s) | none => false) else if d = gs + 1 then okV st' o.o v else if d = gs + 2 then thereV st' v else staysV (some d) v && (uses o.o).all fun k => staysA (some d) (st'.t k) := fun l hl => by
  induction l with
  | nil => rfl
  | cons d l ih => rw [List.all_cons,List.all_cons,e2 d (hl d (by simp)),ih fun x hx => hl x (List.mem_cons_of_mem _ hx)]
 have e4 := e3 o.av fun _ h => h
 exact congrArg (fun b => (!o.pq || pure v) && b) e4
theorem thereV_congr {v : A} (h : ∀ p i c,(v = .loc p i c ∨ v = .view p i c) → (st.r p).isSome = (st'.r p).isSome) : thereV st v = thereV st' v := by
 cases v <;> first
  | rfl
  | exact h _ _ _ (.inl rfl)
  | exact h _ _ _ (.inr rfl)
theorem readOk_congr {o : Op} {v : A} (hr : st.r = st'.r ∨ gs + 1 ∉ o.av ∧ gs + 2 ∉ o.av) (h : ∀ i ∈ uses o.o ++ flagU o,st.t i = st'.t i) : readOk st o v = readOk st' o v :=
 readOk_congr' (fun hg => hr.elim (fun e => okV_congr fun k hk => ⟨h k (List.mem_append_left _ hk),fun p i c _ => by rw [e]⟩) fun e => absurd hg e.1)
  (fun hg => hr.elim (fun e => thereV_congr fun p i c _ => by rw [e]) fun e => absurd hg e.2) h
theorem resG_congr {all : List Op} {o : Op} (hr : st.r = st'.r) (h : ∀ i ∈ (uses o.o ++ flagU o) ++ guardU all o.g,st.t i = st'.t i) : resG cf io all st o = resG cf io all st' o := by
 have e : ∀ v,readOk st o v = readOk st' o v := fun v => readOk_congr (.inl hr) fun i hi => h i (List.mem_append_left _ hi)
 simp only [resG,guardOf_congr (st := st) (st' := st') fun i hi => h i (List.mem_append_right _ hi),evalV_congr (st := st) (st' := st') hr fun i hi => h i (List.mem_append_left _ (List.mem_append_left _ hi)),e]
def apartV (all : List Op) (x y : Op) : Bool :=
 !x.w && !y.w && (match x.d with | some d => !((uses y.o ++ flagU y) ++ guardU all y.g).contains d && y.d != some d | none => true) && (match y.d with | some d => !((uses x.o ++ flagU x) ++ guardU all x.g).contains d | none => true)
def simple : O → Bool
 | .mv _ | .ext _ _ | .bin .. | .un .. | .fld .. | .ix .. | .lens _ => true
 | .ld _ (.t _) | .nilck (.t _) | .fa _ (.t _) | .iaa _ _ (.t _) _ | .ia _ (.t _) _ | .len (.t _) => true
 | _ => false
def adr : O → Bool
 | .mv (.t _) | .ia _ (.t _) _ | .nilck (.t _) | .fa _ (.t _) | .iaa _ _ (.t _) _ => true
 | _ => false
def wr : O → Bool
 | .call .. | .alloc .. | .sto .. | .asg .. | .bsl .. => true
 | _ => false
def apartW (x y : Op) : Bool :=
 !y.pq && (x.av.isEmpty && !x.w && y.w && simple x.o && (x.pq || adr x.o) && wr y.o && x.g.isNone && y.g.isNone &&
  ((uses x.o).all (fun k => y.av.contains k && !(uses y.o).contains k && y.d != some k && decide (k < gs))) &&
  (match x.d with | some s => decide (s < gs) && !(uses y.o).contains s && y.d != some s && !y.av.contains s | none => true))
def apartB (x y : Op) : Bool :=
 !y.pq && ((x.av == [gs]) && !x.w && y.w && adr x.o && wr y.o && (match y.o with | .alloc .. => false | .bsl .. => false | _ => true) && x.g.isNone && y.g.isNone &&
  ((uses x.o).all (fun k => y.av.contains k && !(uses y.o).contains k && y.d != some k && decide (k < gs))) &&
  (match x.d with | some s => decide (s < gs) && !(uses y.o).contains s && y.d != some s && y.av.contains s && !(uses x.o).contains s | none => false))
def isAlloc : O → Bool
 | .alloc .. => true
 | _ => false
def simpleA : O → Bool
 | .build _ ps => ps.all fun p => match p.2.2 with | .t _ => true | .c a => pure a
 | o => simple o
def apartA (x y : Op) : Bool :=
 !y.pq && (!x.w && y.w && simpleA x.o && isAlloc y.o && x.g.isNone && y.g.isNone && y.av.isEmpty &&
  (match y.d with | some d => x.av.contains d && !(uses x.o).contains d && x.d != some d && d != gs && !x.av.contains gs && !x.av.contains (gs + 1) && !x.av.contains (gs + 2) | none => false))
def apartP (x y : Op) : Bool :=
 y.pq && (x.av.isEmpty && !x.pq && !x.w && y.w && x.g.isNone && y.g.isNone && y.av.isEmpty && y.d.isNone && (match x.o with | .mv (.t k) => decide (k < gs) | _ => false) && (match y.o with | .sto .. => true | _ => false) &&
  (match x.d with | some s => decide (s < gs) && !(uses y.o).contains s | none => false))
def apartQ (all : List Op) (x y : Op) : Bool :=
 y.pq && (!x.w && y.w && y.g.isNone && y.av.isEmpty && (match y.o with | .asg _ => true | _ => false) && (match y.d with | some d => !((uses x.o ++ flagU x) ++ guardU all x.g).contains d && x.d != some d | none => false) && (match x.d with | some s => !(uses y.o).contains s | none => true))
def slotR : O → Bool
 | .mv _ | .ext _ _ | .bin .. | .un .. | .fld .. | .ix .. | .lens _ => true
 | _ => false
def isMv : O → Bool
 | .mv (.t _) => true
 | _ => false
def isSlc : O → Bool
 | .slc _ (.t _) _ _ => true
 | _ => false
def apartM (x y : Op) : Bool :=
 y.pq && (!x.w && (y.w && (x.g.isNone && (y.g.isNone && (!y.av.isEmpty && ((match y.o with
  | .sto .. => y.d.isNone && (slotR x.o && (x.pq || isMv x.o) || isSlc x.o)
  | .call .. => simple x.o && x.av.contains (gs + 1)
  | .app .. => y.d.isSome && (simple x.o && (x.av.contains gs && (x.av.contains (gs + 1) && x.av.contains (gs + 2))))
  | _ => false) &&
  ((uses x.o).all (fun k => y.av.contains k && (!(uses y.o).contains k && (y.d != some k && decide (k < gs)))) &&
  (match x.d with | some s => decide (s < gs) && (!(uses y.o).contains s && (y.d != some s && (!(uses x.o).contains s && (x.av.all (fun d => d == gs || (d == gs + 1 || d == gs + 2)) && (x.av.contains gs == y.av.contains s && !y.av.contains (cp + s)))))) | none => false))))))))
def apartC (x y : Op) : Bool :=
 y.pq && (!x.pq && (!x.w && (y.w && (x.g.isNone && (y.g.isNone && (!y.av.isEmpty && ((match y.o with | .call .. => true | _ => false) &&
  ((match x.o with | .mv (.t k) => y.av.contains (cp + k) && (!(uses y.o).contains k && (y.d != some k && decide (k < gs))) | _ => false) &&
  (match x.d with | some s => decide (s < gs) && (!(uses y.o).contains s && (y.d != some s && (!(uses x.o).contains s && (!y.av.contains s && (x.av.all (fun d => d == gs || d == gs + 1) && x.av.contains gs == y.av.contains (cp + s)))))) | none => false)))))))))
def apartOps (all : List Op) (x y : Op) : Bool := apartV all x y || ((apartC x y || apartC y x) || ((apartM x y || apartM y x) || ((apartW x y || apartW y x) || ((apartA x y || apartA y x) || ((apartB x y || apartB y x) || ((apartP x y || apartP y x) || (apartQ all x y || apartQ all y x)))))))
theorem put_t (st : St) (d : Option Nat) (v : A) {i : Nat} (h : d ≠ some i) : (st.put d v).t i = st.t i := by
 cases d with
 | none => rfl
 | some d =>
   have : i ≠ d := fun e => h (by rw [e])
   simp [St.put,this]
theorem put_r (st : St) (d : Option Nat) (v : A) : (st.put d v).r = st.r := by cases d <;> rfl
theorem put_comm (st : St) {d e : Option Nat} (v u : A) (h : ∀ i,d = some i → e ≠ some i) : (st.put d v).put e u = (st.put e u).put d v := by
 cases d with
 | none => rfl
 | some d =>
   cases e with
   | none => rfl
   | some e =>
     have hne : d ≠ e := fun x => h d rfl (by rw [x])
     simp only [St.put]
     congr 1
     funext i
     by_cases h1 : i = d
     ·by_cases h2 : i = e
      ·omega
      ·simp [h1,hne]
     ·by_cases h2 : i = e
      ·simp [h2,Ne.symm hne]
      ·simp [h1,h2]
theorem stepG_commV {all : List Op} {x y : Op} (h : apartV all x y = true) {st s1 s2 : St} (h1 : stepG cf io all st x = some s1) (h2 : stepG cf io all s1 y = some s2) :
 ∃ t1,stepG cf io all st y = some t1 ∧ stepG cf io all t1 x = some s2 := by
 simp only [apartV,Bool.and_eq_true,Bool.not_eq_true'] at h
 obtain ⟨⟨⟨hx,hy⟩,hxd⟩,hyd⟩ := h
 rw [stepG_res hx] at h1
 rw [stepG_res hy] at h2
 obtain ⟨v,hv,rfl⟩ := Option.map_eq_some_iff.1 h1
 obtain ⟨u,hu,rfl⟩ := Option.map_eq_some_iff.1 h2
 have e1 : resG cf io all (st.put x.d v) y = resG cf io all st y := resG_congr (put_r _ _ _) fun i hi => put_t _ _ _ fun e => by
  rw [e] at hxd
  simp only [Bool.and_eq_true,Bool.not_eq_true',List.contains_eq_mem,decide_eq_false_iff_not] at hxd
  exact hxd.1 hi
 rw [e1] at hu
 have e2 : resG cf io all (st.put y.d u) x = resG cf io all st x := resG_congr (put_r _ _ _) fun i hi => put_t _ _ _ fun e => by
  rw [e] at hyd
  simp only [Bool.not_eq_true',List.contains_eq_mem,decide_eq_false_iff_not] at hyd
  exact hyd hi
 refine ⟨st.put y.d u,by rw [stepG_res hy,hu]; rfl,?_⟩
 rw [stepG_res hx,e2,hv]
 simp only [Option.map_some]
 rw [put_comm]
 intro i e1 e2
 rw [e2] at hxd
 simp only [Bool.and_eq_true,bne_iff_ne,ne_eq] at hxd
 exact hxd.2 e1
theorem Var.no (d : Option Nat) (st : St) : Var none d st := by constructor <;> (intro p e; cases e)
def VarN (o : O) (q d : Option Nat) (st : St) : Prop := callN st o = true ∧ ∀ p,q = some p → freeAt st o d p = true
def VarO (o : O) (q d : Option Nat) (st : St) : Prop := (∀ p,q = some p → d ≠ some p) ∧ ((∃ z zero,o = .alloc z zero) ∨ (∃ z zero n ps,o = .bsl z zero n ps ∧ ∀ p ∈ ps,noView (p.2.v st) = true) ∨ (Var q d st ∨ VarN o q d st))
theorem VarO.no (o : O) (d : Option Nat) (st : St) : VarO o none d st := ⟨fun p e => (by cases e),.inr (.inr (.inl (Var.no d st)))⟩
theorem freeAt_is {o : O} {d : Option Nat} {p : Nat} (h : freeAt st o d p = true) : p < 1002000 ∧ p ∉ touch st o ∧ (∀ i ∈ touch st o,Free (some p) i) ∧ (∀ i,d = some i → Free (some p) i) ∧ d ≠ some p := by
 simp only [freeAt,Bool.and_eq_true,decide_eq_true_eq,Bool.not_eq_true',List.contains_eq_mem,decide_eq_false_iff_not,List.all_eq_true,bne_iff_ne,ne_eq] at h
 obtain ⟨h1,h2,h3,h4⟩ := h
 have fr : ∀ i,i ≠ p → ¬ i + 1 = p / 1000 → Free (some p) i := fun i a b p' e => by
  cases e
  refine ⟨a,fun c hc e => b ?_⟩
  unfold sub at e
  omega
 refine ⟨h1,h2,fun i hi => fr i (fun e => h2 (e ▸ hi)) (h3 i hi),fun i hi => ?_,fun e => ?_⟩
 ·rw [hi] at h4
  simp only [Bool.and_eq_true,bne_iff_ne,ne_eq] at h4
  exact fr i h4.1 h4.2
 ·rw [e] at h4
  simp at h4
theorem staysA_fix {d : Option Nat} {a : A} (h : staysA d a = true) : ∃ q,Fix q a ∧ (∀ p,q = some p → d ≠ some p) ∧ ∀ p i c,(a = .loc p i c ∨ a = .view p i c) → q = some p := by
 unfold staysA at h
 split at h
 ·rename_i p i c
  simp only [bne_iff_ne,ne_eq] at h
  exact ⟨some p,.inr ⟨p,i,c,rfl,.inl rfl⟩,fun p' e => by cases e; exact h,fun p' i' c' e => by rcases e with e | e <;> cases e; rfl⟩
 ·rename_i p i c
  simp only [bne_iff_ne,ne_eq] at h
  exact ⟨some p,.inr ⟨p,i,c,rfl,.inr rfl⟩,fun p' e => by cases e; exact h,fun p' i' c' e => by rcases e with e | e <;> cases e; rfl⟩
 ·rename_i a n1 n2
  exact ⟨none,.inl (.inl h),fun p e => (by cases e),fun p i c e => (e.elim (fun e => absurd e (n1 p i c)) fun e => absurd e (n2 p i c))⟩
theorem staysW_fix {o : O} {d : Option Nat} {a : A} (h : staysW st o d a = true) : ∃ q,Fix q a ∧ ((∀ p,q = some p → d ≠ some p) ∧ (Var q d st ∨ VarN o q d st)) ∧ (∀ p,q = some p → p ∉ touch st o) ∧ ∀ p i c,(a = .loc p i c ∨ a = .view p i c) → q = some p := by
 have far : ∀ p,callN st o = true → freeAt st o d p = true → ((∀ p',some p = some p' → d ≠ some p') ∧ (Var (some p) d st ∨ VarN o (some p) d st)) ∧ (∀ p',some p = some p' → p' ∉ touch st o) := fun p hc hf => by
  obtain ⟨a1,a2,a3,a4,a5⟩ := freeAt_is hf
  exact ⟨⟨fun p' e => by cases e; exact a5,.inr ⟨hc,fun p' e => by cases e; exact hf⟩⟩,fun p' e => by cases e; exact a2⟩
 unfold staysW at h
 split at h
 ·rename_i p i c
  rcases Bool.or_eq_true_iff.1 h with h | h
  ·simp only [Bool.and_eq_true,decide_eq_true_eq,bne_iff_ne,ne_eq,Bool.not_eq_true',List.contains_eq_mem,decide_eq_false_iff_not] at h
   obtain ⟨h1,h2,h3,h4⟩ := h
   have hV : Var (some p) d st := ⟨fun p' e => by cases e; exact h1,fun p' e => by cases e; exact h2,fun p' e => by
    cases e
    split at h4
    ·rename_i R hR; exact ⟨R,hR,h4⟩
    ·cases h4⟩
   exact ⟨some p,.inr ⟨p,i,c,rfl,.inl rfl⟩,⟨hV.ne,.inl hV⟩,fun p' e => by cases e; exact h3,fun p' i' c' e => by rcases e with e | e <;> cases e; rfl⟩
  ·obtain ⟨hc,hf⟩ := Bool.and_eq_true_iff.1 h
   obtain ⟨b1,b2⟩ := far p hc hf
   exact ⟨some p,.inr ⟨p,i,c,rfl,.inl rfl⟩,b1,b2,fun p' i' c' e => by rcases e with e | e <;> cases e; rfl⟩
 ·rename_i p i c
  obtain ⟨hc,hf⟩ := Bool.and_eq_true_iff.1 h
  obtain ⟨b1,b2⟩ := far p hc hf
  exact ⟨some p,.inr ⟨p,i,c,rfl,.inr rfl⟩,b1,b2,fun p' i' c' e => by rcases e with e | e <;> cases e; rfl⟩
 ·exact ⟨none,.inl (.inr rfl),⟨fun p e => (by cases e),.inl (Var.no d st)⟩,fun p e => (by cases e),fun p i c e => by rcases e with e | e <;> cases e⟩
 ·rename_i a hn hn2 ha
  refine ⟨none,.inl (.inl h),⟨fun p e => (by cases e),.inl (Var.no d st)⟩,fun p e => (by cases e),fun p i c e => ?_⟩
  rcases e with rfl | rfl
  ·exact absurd rfl (hn p i c)
  ·exact absurd rfl (hn2 p i c)
theorem stays_fix {o : O} {d : Option Nat} {k : Nat} (h : stays st o d k = true) : ∃ q,Fix q (st.t k) ∧ VarO o q d st ∧ (∀ p,q = some p → p ∉ touch st o) ∧ ∀ p i c,(st.t k = .loc p i c ∨ st.t k = .view p i c) → q = some p := by
 unfold stays at h
 split at h
 ·rename_i z zero
  obtain ⟨q,h1,h2,h3⟩ := staysA_fix h
  exact ⟨q,h1,⟨h2,.inl ⟨_,_,rfl⟩⟩,fun p _ => by simp [touch],h3⟩
 ·rename_i z zero n ps
  obtain ⟨h,hps⟩ := Bool.and_eq_true_iff.1 h
  obtain ⟨q,h1,h2,h3⟩ := staysA_fix h
  exact ⟨q,h1,⟨h2,.inr (.inl ⟨_,_,_,_,rfl,List.all_eq_true.1 hps⟩)⟩,fun p _ => by simp [touch],h3⟩
 ·obtain ⟨q,h1,h2,h3,h4⟩ := staysW_fix h
  exact ⟨q,h1,⟨h2.1,.inr (.inr h2.2)⟩,h3,h4⟩
theorem staysW_put {o : O} {d : Option Nat} {s : Nat} {v a : A} (h2 : s ∉ uses o) : staysW (st.put' s v) o d a = staysW st o d a := by
 have ht : touch (st.put' s v) o = touch st o := by
  cases o with
  | call f args =>
    have e1 := opdU_v (x := f) (st := st.put' s v) (st' := st) fun i hi => put'_ne (fun e => h2 (by simp [uses,← e,hi]))
    have e2 := listU_v (xs := args) (st := st.put' s v) (st' := st) fun i hi => put'_ne (fun e => h2 (by simp only [uses]; exact List.mem_append_right _ (e ▸ hi)))
    simp only [touch,e1,e2,put'_r]
  | sto n a x =>
    have e1 := opdU_v (x := a) (st := st.put' s v) (st' := st) fun i hi => put'_ne (fun e => h2 (by simp [uses,← e,hi]))
    simp only [touch,e1]
  | _ => rfl
 have hc : callN (st.put' s v) o = callN st o := by
  cases o with
  | call f args =>
    have e1 := opdU_v (x := f) (st := st.put' s v) (st' := st) fun i hi => put'_ne (fun e => h2 (by simp [uses,← e,hi]))
    have e2 := listU_v (xs := args) (st := st.put' s v) (st' := st) fun i hi => put'_ne (fun e => h2 (by simp only [uses]; exact List.mem_append_right _ (e ▸ hi)))
    simp only [callN,e1,e2]
  | _ => rfl
 have hf : ∀ p,freeAt (st.put' s v) o d p = freeAt st o d p := fun p => by simp only [freeAt,ht]
 unfold staysW
 simp only [ht,hc,hf]; rfl
theorem stays_put {o : O} {d : Option Nat} {k s : Nat} {v : A} (h1 : k ≠ s) (h2 : s ∉ uses o) : stays (st.put' s v) o d k = stays st o d k := by
 have ht : touch (st.put' s v) o = touch st o := by
  cases o with
  | call f args =>
    have e1 := opdU_v (x := f) (st := st.put' s v) (st' := st) fun i hi => put'_ne (fun e => h2 (by simp [uses,← e,hi]))
    have e2 := listU_v (xs := args) (st := st.put' s v) (st' := st) fun i hi => put'_ne (fun e => h2 (by simp only [uses]; exact List.mem_append_right _ (e ▸ hi)))
    simp only [touch,e1,e2,put'_r]
  | sto n a x =>
    have e1 := opdU_v (x := a) (st := st.put' s v) (st' := st) fun i hi => put'_ne (fun e => h2 (by simp [uses,← e,hi]))
    simp only [touch,e1]
  | _ => rfl
 unfold stays
 split
 ·rw [put'_ne h1]
 ·rename_i z zero n ps
  have e : ∀ l : List (Nat × Opd),(∀ p ∈ l,s ∉ opdU p.2) → (l.all fun p => noView (p.2.v (st.put' s v))) = l.all fun p => noView (p.2.v st) := fun l hl => by
   induction l with
   | nil => rfl
   | cons p l ih =>
     rw [List.all_cons,List.all_cons,ih fun x hx => hl x (List.mem_cons_of_mem _ hx),opdU_v (x := p.2) (st := st.put' s v) (st' := st) fun i hi => put'_ne (fun e => hl p (by simp) (e ▸ hi))]
  rw [put'_ne h1,e ps fun p hp hi => h2 (by simp only [uses,List.mem_flatMap]; exact ⟨p,hp,hi⟩)]
 ·rw [put'_ne h1]; exact staysW_put h2
theorem wr_eqv {q d : Option Nat} {s : Nat} {v : A} {o : O} (hw : wr o = true) (hv : Fix q v) (hs : s < gs) (hu : s ∉ uses o) (hd : d ≠ some s) (hO : VarO o q d st) (ht : ∀ p,q = some p → p ∉ touch st o) : Eqv q s v st (fun st => stepW cf io d st o) := by
 have hV : (∀ z zero,o ≠ .alloc z zero) → (∀ z zero n ps,o ≠ .bsl z zero n ps) → (Var q d st ∨ VarN o q d st) := fun h h' => hO.2.elim (fun ⟨z,zero,e⟩ => absurd e (h z zero)) fun h'' => h''.elim (fun ⟨z,zero,n,ps,e,_⟩ => absurd e (h' z zero n ps)) id
 have noN : (∀ f args,o ≠ .call f args) → ¬ VarN o q d st := fun h hN => by
  have := hN.1
  cases o <;> first
   | exact absurd rfl (h _ _)
   | cases this
 cases o <;> first
  | (simp [wr] at hw; done)
  | skip
 ·have hV := (hV (fun _ _ e => by cases e) (fun _ _ _ _ e => by cases e)).resolve_right (noN fun _ _ e => by cases e)
  exact asg_eqv hv hV (opdU_v fun i hi => put'_ne (fun e => hu (by simp [uses,← e,hi]))) hd
 ·exact alloc_eqv hv hO.1 hd
 ·rename_i z zero n ps
  have hps : ∀ p ∈ ps,s ∉ opdU p.2 := fun p hp hi => hu (by simp only [uses,List.mem_flatMap]; exact ⟨p,hp,hi⟩)
  rcases hO.2 with ⟨_,_,e⟩ | ⟨_,_,_,_,e,hn⟩ | hV
  ·cases e
  ·cases e; exact bsl_eqvT hv hs hps hn hd hO.1
  ·exact bsl_eqv hv hs (hV.resolve_right (noN fun _ _ e => by cases e)) hps hd
 ·rename_i n a x
  have hV := (hV (fun _ _ e => by cases e) (fun _ _ _ _ e => by cases e)).resolve_right (noN fun _ _ e => by cases e)
  refine sto_eqv hv hs hV ?_ ?_ hd ht
  ·exact opdU_v fun i hi => put'_ne (fun e => hu (by simp [uses,← e,hi]))
  ·exact opdU_v fun i hi => put'_ne (fun e => hu (by simp [uses,← e,hi]))
 ·rename_i f args
  have hf : f.v (st.put' s v) = f.v st := opdU_v fun i hi => put'_ne (fun e => hu (by simp [uses,← e,hi]))
  have ha : args.map (Opd.v (st.put' s v)) = args.map (Opd.v st) := listU_v fun i hi => put'_ne (fun e => hu (by simp only [uses]; exact List.mem_append_right _ (e ▸ hi)))
  rcases hV (fun _ _ e => by cases e) (fun _ _ _ _ e => by cases e) with hV | ⟨hc,hfr⟩
  ·exact call_eqv hv hs hV hf ha hd ht
  ·simp only [callN,Bool.and_eq_true,List.all_eq_true] at hc
   refine callN_eqv hv hs (fun p hp => (freeAt_is (hfr p hp)).1) hf ha hd hc.1 (fun g caps e a hm => ?_) ht (fun i hi p hp => (freeAt_is (hfr p hp)).2.2.1 i hi p rfl) (fun i hi p hp => (freeAt_is (hfr p hp)).2.2.2.1 i hi p rfl)
   have := hc.2
   rw [e] at this
   exact List.all_eq_true.1 this a hm
theorem wr_stay {d : Option Nat} {k : Nat} {o : O} (hw : wr o = true) (hk : stays st o d k = true) (hs : k < gs) (hu : k ∉ uses o) (hd : d ≠ some k) {st1 : St} (h : stepW cf io d st o = some st1) :
 st1.t k = st.t k ∧ ∀ p i c,(st.t k = .loc p i c ∨ st.t k = .view p i c) → st1.r p = st.r p := by
 obtain ⟨q,h1,h2,h3,h4⟩ := stays_fix hk
 have he := wr_eqv (cf := cf) (io := io) hw h1 hs hu hd h2 h3
 have hp := he.put
 rw [put'_self] at hp
 have hp : stepW cf io d st o = (stepW cf io d st o).map (·.put' k (st.t k)) := hp
 rw [h] at hp
 simp only [Option.map_some,Option.some.injEq] at hp
 refine ⟨by rw [hp]; simp [St.put'],fun p i c e => he.keep st1 h p (h4 p i c e)⟩
theorem simple_congr {d : Option Nat} {o : O} (hsm : simple o = true) (h : ∀ k ∈ uses o,st.t k = st'.t k ∧ ∀ p i c,(st.t k = .loc p i c ∨ st.t k = .view p i c) → st.r p = st'.r p) : evalV cf io d st o = evalV cf io d st' o := by
 have hv : ∀ x : Opd,(∀ i ∈ opdU x,i ∈ uses o) → x.v st = x.v st' := fun x hx => opdU_v fun i hi => (h i (hx i hi)).1
 have at_ : ∀ k,k ∈ uses o → Opd.v st (.t k) = st.t k ∧ Opd.v st' (.t k) = st.t k := fun k hk => ⟨rfl,(h k hk).1.symm⟩
 cases o <;> first
  | (simp [simple] at hsm; done)
  | skip
 ·rename_i x; have := hv x (by simp [uses]); simp only [evalV,this]
 ·rename_i n x
  cases x with
  | c a => simp [simple] at hsm
  | t k =>
    obtain ⟨h1,h2⟩ := at_ k (by simp [uses,opdU])
    have h3 := fun p i c e => (h k (by simp [uses,opdU])).2 p i c (.inl e)
    simp only [evalV,h1,h2]
    split
    ·rename_i q i c e; rw [h3 _ _ _ e]
    ·rfl
    ·rfl
 ·rename_i x
  cases x with
  | c a => simp [simple] at hsm
  | t k =>
    obtain ⟨h1,h2⟩ := at_ k (by simp [uses,opdU])
    have h3 := fun p i c e => (h k (by simp [uses,opdU])).2 p i c (.inl e)
    simp only [evalV,h1,h2]
    split
    ·rename_i q i c e; rw [h3 _ _ _ e]
    ·rfl
    ·rfl
    ·rfl
 ·rename_i op x y
  have e1 := hv x fun i hi => by simp [uses,hi]
  have e2 := hv y fun i hi => by simp [uses,hi]
  simp only [evalV,e1,e2]
 ·rename_i op x; have := hv x (by simp [uses]); simp only [evalV,this]
 ·rename_i off x
  cases x with
  | c a => simp [simple] at hsm
  | t k =>
    obtain ⟨h1,h2⟩ := at_ k (by simp [uses,opdU])
    have h3 := fun p i c e => (h k (by simp [uses,opdU])).2 p i c (.inl e)
    simp only [evalV,h1,h2]
    split
    ·rename_i q i c e; rw [h3 _ _ _ e]
    ·rfl
    ·rfl
 ·rename_i off n x; have := hv x (by simp [uses]); simp only [evalV,this]
 ·rename_i z x i
  cases x with
  | c a => simp [simple] at hsm
  | t k =>
    obtain ⟨h1,h2⟩ := at_ k (by simp [uses,opdU])
    have h3 := fun p i c e => (h k (by simp [uses,opdU])).2 p i c (.inr e)
    have e2 := hv i fun i hi => by simp [uses,hi]
    simp only [evalV,h1,h2,e2]
    split
    ·rename_i e; rw [h3 _ _ _ e]
    ·rfl
    ·rfl
 ·rename_i len z x i
  cases x with
  | c a => simp [simple] at hsm
  | t k =>
    obtain ⟨h1,h2⟩ := at_ k (by simp [uses,opdU])
    have h3 := fun p i c e => (h k (by simp [uses,opdU])).2 p i c (.inl e)
    have e2 := hv i fun i hi => by simp [uses,hi]
    simp only [evalV,h1,h2,e2]
    split
    ·rename_i e; rw [h3 _ _ _ e]
    ·rfl
    ·rfl
 ·rename_i x y
  have e1 := hv x fun i hi => by simp [uses,hi]
  have e2 := hv y fun i hi => by simp [uses,hi]
  simp only [evalV,e1,e2]
 ·rename_i x
  cases x with
  | c a => simp [simple] at hsm
  | t k =>
    obtain ⟨h1,h2⟩ := at_ k (by simp [uses,opdU])
    have h3 := fun p i c e => (h k (by simp [uses,opdU])).2 p i c (.inr e)
    simp only [evalV,h1,h2,lenA]
    split <;> first
     | rfl
     | (rename_i q o n e; rw [h3 _ _ _ e])
 ·rename_i x; have := hv x (by simp [uses]); simp only [evalV,this]
 ·rename_i x i; have := hv x (by simp [uses]); simp only [evalV,this]
theorem read_fix {d : Option Nat} {o y : O} {dy : Option Nat} {v : A} (hp : pure v = true ∨ adr o = true) (h : ∀ k ∈ uses o,stays st y dy k = true) (he : evalV cf io d st o = some v) : ∃ q,Fix q v ∧ VarO y q dy st ∧ ∀ p,q = some p → p ∉ touch st y := by
 have no : ∀ u : A,pure u = true → ∃ q,Fix q u ∧ VarO y q dy st ∧ ∀ p,q = some p → p ∉ touch st y := fun u hu => ⟨none,.inl (.inl hu),VarO.no y dy st,fun p e => (by cases e)⟩
 have lc : ∀ (k p i c i' c' : Nat),stays st y dy k = true → (st.t k = .loc p i c ∨ st.t k = .view p i c) → ∃ q,Fix q (.loc p i' c') ∧ VarO y q dy st ∧ ∀ p,q = some p → p ∉ touch st y := fun k p i c i' c' hk e => by
  obtain ⟨q,h1,h2,h3,h4⟩ := stays_fix hk
  exact ⟨q,.inr ⟨p,i',c',h4 _ _ _ e,.inl rfl⟩,h2,h3⟩
 rcases hp with hp | hp
 ·exact no v hp
 ·cases o <;> first
   | (simp [adr] at hp; done)
   | skip
  ·rename_i x
   cases x with
   | c a => simp [adr] at hp
   | t k =>
     have hk := h k (by simp [uses,opdU])
     simp only [evalV,Opd.v] at he
     obtain rfl := Option.some.inj he
     obtain ⟨q,h1,h2,h3,_⟩ := stays_fix hk
     exact ⟨q,h1,h2,h3⟩
  ·rename_i x
   cases x with
   | c a => simp [adr] at hp
   | t k =>
     have hk := h k (by simp [uses,opdU])
     simp only [evalV,Opd.v] at he
     split at he
     ·rename_i p i c e
      obtain ⟨R,_,he⟩ := Option.map_eq_some_iff.1 he
      subst he; exact lc k p i c i c hk (.inl e)
     ·cases he; exact no _ rfl
     ·rename_i f caps e
      cases he
      refine no _ ?_
      unfold stays at hk; rw [e] at hk
      split at hk <;> first | exact hk | exact (Bool.and_eq_true_iff.1 hk).1
     ·cases he
  ·rename_i off x
   cases x with
   | c a => simp [adr] at hp
   | t k =>
     have hk := h k (by simp [uses,opdU])
     simp only [evalV,Opd.v] at he
     split at he
     ·rename_i p i c e
      obtain ⟨R,_,he⟩ := Option.map_eq_some_iff.1 he
      subst he; exact lc k p i c i _ hk (.inl e)
     ·cases he; exact no _ rfl
     ·cases he
  ·rename_i z x i
   cases x with
   | c a => simp [adr] at hp
   | t k =>
     have hk := h k (by simp [uses,opdU])
     simp only [evalV] at he
     split at he
     ·rename_i p j c _ e
      have e : st.t k = .view p j c := e
      obtain ⟨R,_,he⟩ := Option.bind_eq_some_iff.1 he
      split at he
      ·cases he; exact lc k p j c _ _ hk (.inr e)
      ·cases he
     ·split at he
      ·obtain ⟨R,_,he⟩ := Option.map_eq_some_iff.1 he
       subst he; exact no _ rfl
      ·cases he
     ·cases he
  ·rename_i len z x i
   cases x with
   | c a => simp [adr] at hp
   | t k =>
     have hk := h k (by simp [uses,opdU])
     simp only [evalV] at he
     split at he
     ·rename_i p j c _ e
      have e : st.t k = .loc p j c := e
      split at he
      ·obtain ⟨R,_,he⟩ := Option.map_eq_some_iff.1 he
       subst he; exact lc k p j c j _ hk (.inl e)
      ·cases he
     ·split at he
      ·cases he; exact no _ rfl
      ·cases he
     ·cases he
structure RW (x y : Op) : Prop where
 xa : x.av = []
 xw : x.w = false
 yw : y.w = true
 yq : y.pq = false
 sm : simple x.o = true
 pq : x.pq = true ∨ adr x.o = true
 wr : wr y.o = true
 xg : x.g = none
 yg : y.g = none
 use : ∀ k ∈ uses x.o,k ∈ y.av ∧ k ∉ uses y.o ∧ y.d ≠ some k ∧ k < gs
 dst : ∀ s,x.d = some s → s < gs ∧ s ∉ uses y.o ∧ y.d ≠ some s ∧ s ∉ y.av
theorem apartW_is {x y : Op} (h : apartW x y = true) : RW x y := by
 simp only [apartW,Bool.and_eq_true,List.isEmpty_iff,Bool.not_eq_true',Bool.or_eq_true,Option.isNone_iff_eq_none,List.all_eq_true,List.contains_eq_mem,decide_eq_true_eq,decide_eq_false_iff_not,bne_iff_ne,ne_eq] at h
 obtain ⟨hq,⟨⟨⟨⟨⟨⟨⟨⟨h0,h1⟩,h2⟩,h3⟩,h4⟩,h5⟩,h6⟩,h7⟩,h8⟩,h9⟩ := h
 refine ⟨h0,h1,h2,hq,h3,h4,h5,h6,h7,fun k hk => ?_,fun s hs => ?_⟩
 ·obtain ⟨⟨⟨a,b⟩,c⟩,e⟩ := h8 k hk; exact ⟨a,b,c,e⟩
 ·rw [hs] at h9
  simp only [Bool.and_eq_true,Bool.not_eq_true',decide_eq_true_eq,decide_eq_false_iff_not,bne_iff_ne,ne_eq,List.contains_eq_mem] at h9
  obtain ⟨⟨⟨a,b⟩,c⟩,e⟩ := h9; exact ⟨a,b,c,e⟩
theorem stepG_r' {all : List Op} {x : Op} (hw : x.w = false) (hg : x.g = none) (st : St) : stepG cf io all st x = (evalV cf io x.d st x.o).bind fun v => if readOk st x v then some (st.put x.d v) else none := by
 simp only [stepG,hg,guardOf,step,hw,Bool.false_eq_true,if_false]
theorem stepG_r {all : List Op} {x : Op} (hw : x.w = false) (ha : x.av = []) (hg : x.g = none) (st : St) : stepG cf io all st x = (evalV cf io x.d st x.o).bind fun v => if !x.pq || pure v then some (st.put x.d v) else none := by
 simp only [stepG_r' hw hg,readOk,ha,List.all_nil,Bool.and_true]
theorem stepG_w {all : List Op} {x : Op} (hw : x.w = true) (hp : x.pq = false) (hg : x.g = none) (st : St) : stepG cf io all st x = if x.av.all (stays st x.o x.d) then stepW cf io x.d st x.o else none := by
 simp only [stepG,hg,guardOf,step,chkW,hw,hp,Bool.not_false,Bool.true_or,Bool.true_and,Bool.false_and,Bool.false_eq_true,if_false,if_true]
theorem rw_read {x y : Op} (h : RW x y) {st st' : St} (hs : y.av.all (stays st y.o y.d) = true) (hst : stepW cf io y.d st y.o = some st') : evalV cf io x.d st x.o = evalV cf io x.d st' x.o := by
 rw [List.all_eq_true] at hs
 refine simple_congr h.sm fun k hk => ?_
 obtain ⟨h1,h2,h3,h4⟩ := h.use k hk
 obtain ⟨e1,e2⟩ := wr_stay h.wr (hs k h1) h4 h2 h3 hst
 exact ⟨e1.symm,fun p i c e => (e2 p i c e).symm⟩
theorem rw_fix {x y : Op} (h : RW x y) {st : St} (hs : y.av.all (stays st y.o y.d) = true) {v : A} (hv : evalV cf io x.d st x.o = some v) (hq : (!x.pq || pure v) = true) : ∃ q,Fix q v ∧ VarO y.o q y.d st ∧ ∀ p,q = some p → p ∉ touch st y.o := by
 rw [List.all_eq_true] at hs
 refine read_fix (o := x.o) ?_ (fun k hk => hs k (h.use k hk).1) hv
 rcases h.pq with e | e
 ·rw [e] at hq; exact .inl (by simpa using hq)
 ·exact .inr e
theorem rw_put {x y : Op} (h : RW x y) {st : St} {s : Nat} (hd : x.d = some s) (hs : y.av.all (stays st y.o y.d) = true) {v : A} (hv : evalV cf io x.d st x.o = some v) (hq : (!x.pq || pure v) = true) :
 stepW cf io y.d (st.put' s v) y.o = (stepW cf io y.d st y.o).map (·.put' s v) := by
 obtain ⟨q,h1,h2,h3⟩ := rw_fix h hs hv hq
 obtain ⟨d1,d2,d3,d4⟩ := h.dst s hd
 exact (wr_eqv (cf := cf) (io := io) h.wr h1 d1 d2 d3 h2 h3).put
theorem rw_all {x y : Op} (h : RW x y) {st : St} {s : Nat} (hd : x.d = some s) (v : A) : y.av.all (stays (st.put' s v) y.o y.d) = y.av.all (stays st y.o y.d) := by
 obtain ⟨d1,d2,d3,d4⟩ := h.dst s hd
 have : ∀ l : List Nat,s ∉ l → l.all (stays (st.put' s v) y.o y.d) = l.all (stays st y.o y.d) := fun l hl => by
  induction l with
  | nil => rfl
  | cons k l ih =>
    simp only [List.mem_cons,not_or] at hl
    rw [List.all_cons,List.all_cons,ih hl.2,stays_put (fun e => hl.1 e.symm) d2]
 exact this _ d4
theorem stepG_comm1 {all : List Op} {x y : Op} (h : RW x y) {st s1 s2 : St} (h1 : stepG cf io all st x = some s1) (h2 : stepG cf io all s1 y = some s2) : ∃ t1,stepG cf io all st y = some t1 ∧ stepG cf io all t1 x = some s2 := by
 rw [stepG_r h.xw h.xa h.xg] at h1
 rw [stepG_w h.yw h.yq h.yg] at h2
 obtain ⟨v,hv,h1⟩ := Option.bind_eq_some_iff.1 h1
 split at h1
 ·rename_i hq
  cases h1
  split at h2
  ·rename_i hs
   cases hd : x.d with
   | none =>
     rw [hd] at h2 hs
     have h2 : stepW cf io y.d st y.o = some s2 := h2
     have hs : y.av.all (stays st y.o y.d) = true := hs
     refine ⟨s2,by rw [stepG_w h.yw h.yq h.yg,if_pos hs,h2],?_⟩
     rw [stepG_r h.xw h.xa h.xg,← rw_read h hs h2,hv,Option.bind_some,if_pos hq,hd]; rfl
   | some s =>
     rw [hd] at h2 hs
     have h2 : stepW cf io y.d (st.put' s v) y.o = some s2 := h2
     have hs : y.av.all (stays (st.put' s v) y.o y.d) = true := hs
     rw [rw_all h hd] at hs
     rw [rw_put h hd hs hv hq] at h2
     obtain ⟨t1,e1,e2⟩ := Option.map_eq_some_iff.1 h2
     refine ⟨t1,by rw [stepG_w h.yw h.yq h.yg,if_pos hs,e1],?_⟩
     rw [stepG_r h.xw h.xa h.xg,← rw_read h hs e1,hv,Option.bind_some,if_pos hq,hd,← e2]; rfl
  ·cases h2
 ·cases h1
theorem stepG_comm2 {all : List Op} {x y : Op} (h : RW y x) {st s1 s2 : St} (h1 : stepG cf io all st x = some s1) (h2 : stepG cf io all s1 y = some s2) : ∃ t1,stepG cf io all st y = some t1 ∧ stepG cf io all t1 x = some s2 := by
 rw [stepG_w h.yw h.yq h.yg] at h1
 rw [stepG_r h.xw h.xa h.xg] at h2
 obtain ⟨v,hv,h2⟩ := Option.bind_eq_some_iff.1 h2
 split at h1
 ·rename_i hs
  rw [← rw_read h hs h1] at hv
  split at h2
  ·rename_i hq
   cases h2
   refine ⟨st.put y.d v,by rw [stepG_r h.xw h.xa h.xg,hv,Option.bind_some,if_pos hq],?_⟩
   rw [stepG_w h.yw h.yq h.yg]
   cases hd : y.d with
   | none =>
     show (if x.av.all (stays st x.o x.d) then stepW cf io x.d st x.o else none) = _
     rw [if_pos hs,h1]; rfl
   | some s =>
     show (if x.av.all (stays (st.put' s v) x.o x.d) then stepW cf io x.d (st.put' s v) x.o else none) = _
     rw [rw_all h hd,if_pos hs,rw_put h hd hs hv hq,h1]; rfl
  ·cases h2
 ·cases h1
theorem solid_same {r r' : Nat → Option Root} {a : A} (h : ∀ p i c,(a = .loc p i c ∨ a = .view p i c) → r p = r' p) : solid r a = solid r' a := by
 cases a <;> first
  | rfl
  | (rename_i q i c; simp only [solid]; rw [h q i c (by simp)])
theorem solid_pure {r r' : Nat → Option Root} {a : A} (h : pureC a = true) : solid r a = solid r' a := by
 cases a <;> first
  | rfl
  | simp [pureC] at h
theorem cells_pure {r r' : Nat → Option Root} {a : A} (h : pure a = true) : ∀ c ∈ a.cells,solid r c = solid r' c := by
 intro c hc
 cases a <;> first
  | (simp only [A.cells,List.mem_singleton] at hc; subst hc; exact solid_pure h)
  | skip
 rename_i cs
 simp only [pure,List.all_eq_true] at h
 exact solid_pure (h c hc)
theorem cells_stay {r r' : Nat → Option Root} {d : Option Nat} {a : A} (hs : staysA d a = true) (h : ∀ p i c,(a = .loc p i c ∨ a = .view p i c) → r p = r' p) : ∀ c ∈ a.cells,solid r c = solid r' c := by
 unfold staysA at hs
 split at hs
 ·intro c hc
  simp only [A.cells,List.mem_singleton] at hc; subst hc; exact solid_same h
 ·intro c hc
  simp only [A.cells,List.mem_singleton] at hc; subst hc; exact solid_same h
 ·exact cells_pure hs
theorem all_same {r r' : Nat → Option Root} : ∀ {l : List A},(∀ c ∈ l,solid r c = solid r' c) → l.all (solid r) = l.all (solid r')
 | [],_ => rfl
 | a :: l,h => by rw [List.all_cons,List.all_cons,h a (by simp),all_same fun c hc => h c (List.mem_cons_of_mem _ hc)]
theorem fillA_c : ∀ {ps : List (Nat × Nat × Opd)} {cs : List A},(∀ p ∈ ps,p.2.2.v st = p.2.2.v st' ∧ ∀ c ∈ (p.2.2.v st').cells,solid st.r c = solid st'.r c) → fillA st cs ps = fillA st' cs ps
 | [],_,_ => rfl
 | (off,z,x) :: ps,cs,h => by
   obtain ⟨h1,h2⟩ := h (off,z,x) (by simp)
   have ih : ∀ cs',fillA st cs' ps = fillA st' cs' ps := fun cs' => fillA_c fun p hp => h p (List.mem_cons_of_mem _ hp)
   have h1 : x.v st = x.v st' := h1
   have h3 : (x.v st').cells.all (solid st.r) = (x.v st').cells.all (solid st'.r) := all_same h2
   simp only [fillA,h1,h3,ih]
theorem simpleA_congr {d e : Option Nat} {o : O} (hsm : simpleA o = true) (h : ∀ k ∈ uses o,(st.t k = st'.t k ∧ ∀ p i c,(st.t k = .loc p i c ∨ st.t k = .view p i c) → st.r p = st'.r p) ∧ staysA e (st.t k) = true) : evalV cf io d st o = evalV cf io d st' o := by
 by_cases hs : simple o = true
 ·exact simple_congr hs fun k hk => (h k hk).1
 ·cases o <;> first
   | (exact absurd hsm hs)
   | skip
  rename_i zero ps
  simp only [simpleA,List.all_eq_true] at hsm
  simp only [evalV]
  rw [fillA_c fun p hp => ?_]
  cases hx : p.2.2 with
  | c a =>
    have := hsm p hp
    rw [hx] at this
    exact ⟨rfl,cells_pure this⟩
  | t k =>
    have hk := h k (by simp only [uses]; exact List.mem_flatMap.2 ⟨p,hp,by rw [hx]; simp [opdU]⟩)
    have e1 : st.t k = st'.t k := hk.1.1
    refine ⟨e1,?_⟩
    show ∀ c ∈ (st'.t k).cells,_
    rw [← e1]
    exact cells_stay hk.2 hk.1.2
theorem staysV_kill {d : Nat} {a : A} (h : staysV (some d) a = true) : comps (kill1 d) a = a := by
 unfold staysV at h
 split at h
 ·rename_i cs
  rw [List.all_eq_true] at h
  simp only [comps]
  congr 1
  refine map_fix fun c hc => ?_
  have hk := h c hc
  unfold kill1
  split
  ·rename_i hr
   exfalso
   unfold staysC at hk
   split at hk
   ·simp only [refs1,beq_iff_eq] at hr; subst hr; simp at hk
   ·simp only [refs1,beq_iff_eq] at hr; subst hr; simp at hk
   ·rw [pureC_rootOf hk] at hr; cases hr
  ·rfl
 ·obtain ⟨q,f1,f2,_⟩ := staysA_fix h
  exact f1.kill fun p hp e => f2 p hp (by rw [e])
structure RA (x y : Op) (d : Nat) : Prop where
 xw : x.w = false
 yw : y.w = true
 yq : y.pq = false
 sm : simpleA x.o = true
 al : ∃ z zero,y.o = .alloc z zero
 xg : x.g = none
 yg : y.g = none
 ya : y.av = []
 yd : y.d = some d
 xa : d ∈ x.av
 xu : d ∉ uses x.o
 xd : x.d ≠ some d
 dg : d ≠ gs
 xg' : flagU x = []
 xg1 : gs + 1 ∉ x.av
 xg2 : gs + 2 ∉ x.av
theorem apartA_is {x y : Op} (h : apartA x y = true) : ∃ d,RA x y d := by
 simp only [apartA,Bool.and_eq_true,Bool.not_eq_true',Option.isNone_iff_eq_none,List.isEmpty_iff] at h
 obtain ⟨hq,⟨⟨⟨⟨⟨⟨h1,h2⟩,h3⟩,h4⟩,h5⟩,h6⟩,h7⟩,h8⟩ := h
 cases hd : y.d with
 | none => rw [hd] at h8; simp at h8
 | some d =>
   rw [hd] at h8
   simp only [Bool.and_eq_true,Bool.not_eq_true',List.contains_eq_mem,decide_eq_true_eq,decide_eq_false_iff_not,bne_iff_ne,ne_eq] at h8
   obtain ⟨⟨⟨⟨⟨⟨a1,a2⟩,a3⟩,a4⟩,a5⟩,a6⟩,a7⟩ := h8
   refine ⟨d,h1,h2,hq,h3,?_,h5,h6,h7,hd,a1,a2,a3,a4,by simp [flagU,a5],a6,a7⟩
   cases ho : y.o <;> first
    | (rw [ho] at h4; simp [isAlloc] at h4; done)
    | exact ⟨_,_,rfl⟩
theorem kill_back {d : Nat} {a : A} (h : staysA (some d) (comps (kill1 d) a) = true) : comps (kill1 d) a = a := by
 have one : ∀ b : A,pureC (kill1 d b) = true → kill1 d b = b := fun b hb => by
  unfold kill1 at hb ⊢
  split
  ·rename_i hr; rw [if_pos hr] at hb; simp [pureC] at hb
  ·rfl
 cases a <;> first
  | rfl
  | skip
 all_goals first
  | (simp only [comps,staysA,pure] at h ⊢
     simp only [List.all_eq_true] at h
     congr 1
     exact map_fix fun c hc => one c (h _ (List.mem_map.2 ⟨c,hc,rfl⟩)))
  | (simp [comps,staysA,pure,pureC] at h; done)
  | (simp only [comps,staysA,pure,pureC,List.isEmpty_iff,List.map_eq_nil_iff] at h ⊢
     subst h; rfl)
  | (simp only [comps] at h ⊢
     unfold kill1 at h ⊢
     split
     ·rename_i hr; rw [if_pos hr] at h; simp [staysA,pure,pureC] at h
     ·rfl)
theorem ra_core {x y : Op} {d : Nat} (h : RA x y d) {st s1 : St} (h1 : stepW cf io y.d st y.o = some s1) {v : A} (hv : evalV cf io x.d st x.o = some v ∧ readOk st x v = true ∨ evalV cf io x.d s1 x.o = some v ∧ readOk s1 x v = true) :
 evalV cf io x.d st x.o = some v ∧ readOk st x v = true ∧ evalV cf io x.d s1 x.o = some v ∧ readOk s1 x v = true ∧ stepW cf io y.d (st.put x.d v) y.o = some (s1.put x.d v) := by
 obtain ⟨z,zero,ho⟩ := h.al
 have ht : ∀ k,k ≠ d → s1.t k = comps (kill1 d) (st.t k) := fun k hk => by
  rw [ho,h.yd] at h1
  simp only [stepW] at h1
  split at h1
  ·cases h1; simp [St.put,St.put',St.setRoot,St.kill,St.map,hk]
  ·cases h1
 have hr : ∀ p,p ≠ d → s1.r p = st.r p := fun p hp => by
  rw [ho,h.yd] at h1
  simp only [stepW] at h1
  split at h1
  ·cases h1; simp [St.put,St.put',St.setRoot,St.kill,St.map,hp]
  ·cases h1
 have same : ∀ k ∈ uses x.o,(st.t k = s1.t k ∧ ∀ p i c,(st.t k = .loc p i c ∨ st.t k = .view p i c) → st.r p = s1.r p) ∧ staysA (some d) (st.t k) = true := by
  intro k hk
  have hkd : k ≠ d := fun e => h.xu (e ▸ hk)
  have chk : staysA (some d) (st.t k) = true ∨ staysA (some d) (s1.t k) = true := by
   have get : ∀ s : St,readOk s x v = true → staysA (some d) (s.t k) = true := fun s e => by
    simp only [readOk,Bool.and_eq_true,List.all_eq_true] at e
    have e' := e.2 d h.xa
    rw [if_neg h.dg,if_neg (show ¬ d = gs + 1 from fun e => h.xg1 (e ▸ h.xa)),if_neg (show ¬ d = gs + 2 from fun e => h.xg2 (e ▸ h.xa))] at e'
    simp only [Bool.and_eq_true,List.all_eq_true] at e'
    exact e'.2 k hk
   exact hv.imp (fun e => get _ e.2) (fun e => get _ e.2)
  have e : st.t k = s1.t k ∧ staysA (some d) (st.t k) = true := by
   rcases chk with c | c
   ·obtain ⟨q,f1,f2,_⟩ := staysA_fix c
    exact ⟨((ht k hkd).trans (f1.kill fun p hp e => f2 p hp (by rw [e]))).symm,c⟩
   ·rw [ht k hkd] at c ⊢
    have := kill_back c
    exact ⟨this.symm,by rw [this] at c; exact c⟩
  refine ⟨⟨e.1,fun p i c hpc => ?_⟩,e.2⟩
  obtain ⟨q,f1,f2,f3⟩ := staysA_fix e.2
  have hq := f3 p i c hpc
  exact (hr p fun e => f2 p hq (by rw [e])).symm
 have ev := simpleA_congr (cf := cf) (io := io) (d := x.d) h.sm same
 have ro : readOk st x v = readOk s1 x v := readOk_congr (.inr ⟨h.xg1,h.xg2⟩) fun k hk => (same k (by rw [h.xg',List.append_nil] at hk; exact hk)).1.1
 have hall : evalV cf io x.d st x.o = some v ∧ readOk st x v = true := by
  rcases hv with e | e
  ·exact e
  ·exact ⟨ev.trans e.1,ro.trans e.2⟩
 refine ⟨hall.1,hall.2,ev ▸ hall.1,ro ▸ hall.2,?_⟩
 cases hx : x.d with
 | none => exact h1
 | some s =>
   have hf : staysV (some d) v = true := by
    have e := hall.2
    simp only [readOk,Bool.and_eq_true,List.all_eq_true] at e
    have e' := e.2 d h.xa
    rw [if_neg h.dg,if_neg (show ¬ d = gs + 1 from fun e => h.xg1 (e ▸ h.xa)),if_neg (show ¬ d = gs + 2 from fun e => h.xg2 (e ▸ h.xa))] at e'
    simp only [Bool.and_eq_true] at e'
    exact e'.1
   have hds : (some d : Option Nat) ≠ some s := fun e => h.xd (hx.trans e.symm)
   have hp := alloc_put (cf := cf) (io := io) (i := d) (s := s) (st := st) (staysV_kill hf) (z := z) (zero := zero) hds
   rw [ho,h.yd] at h1 ⊢
   show stepW cf io (some d) (st.put' s v) (.alloc z zero) = some (s1.put' s v)
   rw [hp,h1]; rfl
theorem stepG_comm3 {all : List Op} {x y : Op} {d : Nat} (h : RA x y d) {st s1 s2 : St} (h1 : stepG cf io all st x = some s1) (h2 : stepG cf io all s1 y = some s2) : ∃ t1,stepG cf io all st y = some t1 ∧ stepG cf io all t1 x = some s2 := by
 rw [stepG_r' h.xw h.xg] at h1
 rw [stepG_w h.yw h.yq h.yg] at h2
 simp only [h.ya,List.all_nil,if_true] at h2
 obtain ⟨v,hv,h1⟩ := Option.bind_eq_some_iff.1 h1
 split at h1
 ·rename_i hq
  cases h1
  have hy : ∃ t1,stepW cf io y.d st y.o = some t1 := by
   obtain ⟨z,zero,ho⟩ := h.al
   rw [ho,h.yd] at h2 ⊢
   simp only [stepW] at h2 ⊢
   split at h2
   ·rename_i hc; rw [if_pos hc]; exact ⟨_,rfl⟩
   ·cases h2
  obtain ⟨t1,ht1⟩ := hy
  obtain ⟨_,_,e1,e2,e3⟩ := ra_core h ht1 (.inl ⟨hv,hq⟩)
  rw [e3] at h2
  cases h2
  refine ⟨t1,?_,?_⟩
  ·rw [stepG_w h.yw h.yq h.yg]; simp only [h.ya,List.all_nil,if_true]; exact ht1
  ·rw [stepG_r' h.xw h.xg,e1,Option.bind_some,if_pos e2]
 ·cases h1
theorem stepG_comm4 {all : List Op} {x y : Op} {d : Nat} (h : RA y x d) {st s1 s2 : St} (h1 : stepG cf io all st x = some s1) (h2 : stepG cf io all s1 y = some s2) : ∃ t1,stepG cf io all st y = some t1 ∧ stepG cf io all t1 x = some s2 := by
 rw [stepG_w h.yw h.yq h.yg] at h1
 simp only [h.ya,List.all_nil,if_true] at h1
 rw [stepG_r' h.xw h.xg] at h2
 obtain ⟨v,hv,h2⟩ := Option.bind_eq_some_iff.1 h2
 split at h2
 ·rename_i hq
  cases h2
  obtain ⟨e1,e2,_,_,e3⟩ := ra_core h h1 (.inr ⟨hv,hq⟩)
  refine ⟨st.put y.d v,?_,?_⟩
  ·rw [stepG_r' h.xw h.xg,e1,Option.bind_some,if_pos e2]
  ·rw [stepG_w h.yw h.yq h.yg]; simp only [h.ya,List.all_nil,if_true]; exact e3
 ·cases h2
structure RB (x y : Op) (s : Nat) : Prop where
 xa : x.av = [gs]
 xw : x.w = false
 yw : y.w = true
 yq : y.pq = false
 ad : adr x.o = true
 wr : wr y.o = true
 na : (∀ z zero,y.o ≠ .alloc z zero) ∧ ∀ z zero n ps,y.o ≠ .bsl z zero n ps
 xg : x.g = none
 yg : y.g = none
 use : ∀ k ∈ uses x.o,k ∈ y.av ∧ k ∉ uses y.o ∧ y.d ≠ some k ∧ k < gs
 xd : x.d = some s
 sg : s < gs
 su : s ∉ uses y.o
 sy : y.d ≠ some s
 sa : s ∈ y.av
 sx : s ∉ uses x.o
theorem apartB_is {x y : Op} (h : apartB x y = true) : ∃ s,RB x y s := by
 simp only [apartB,Bool.and_eq_true,beq_iff_eq,Bool.not_eq_true',Option.isNone_iff_eq_none,List.all_eq_true,List.contains_eq_mem,decide_eq_true_eq,decide_eq_false_iff_not,bne_iff_ne,ne_eq] at h
 obtain ⟨hq,⟨⟨⟨⟨⟨⟨⟨⟨h0,h1⟩,h2⟩,h3⟩,h4⟩,h5⟩,h6⟩,h7⟩,h8⟩,h9⟩ := h
 cases hd : x.d with
 | none => rw [hd] at h9; simp at h9
 | some s =>
   rw [hd] at h9
   simp only [Bool.and_eq_true,Bool.not_eq_true',List.contains_eq_mem,decide_eq_true_eq,decide_eq_false_iff_not,bne_iff_ne,ne_eq] at h9
   obtain ⟨⟨⟨⟨a1,a2⟩,a3⟩,a4⟩,a5⟩ := h9
   refine ⟨s,h0,h1,h2,hq,h3,h4,⟨fun z zero e => by rw [e] at h5; simp at h5,fun z zero n ps e => by rw [e] at h5; simp at h5⟩,h6,h7,fun k hk => ?_,hd,a1,a2,a3,a4,a5⟩
   obtain ⟨⟨⟨a,b⟩,c⟩,e⟩ := h8 k hk; exact ⟨a,b,c,e⟩
theorem stays_W {o : O} {d : Option Nat} {k : Nat} (hn : (∀ z zero,o ≠ .alloc z zero) ∧ ∀ z zero n ps,o ≠ .bsl z zero n ps) : stays st o d k = staysW st o d (st.t k) := by
 cases o <;> first
  | rfl
  | exact absurd rfl (hn.1 _ _)
  | exact absurd rfl (hn.2 _ _ _ _)
theorem adr_simple {o : O} (h : adr o = true) : simple o = true := by
 unfold adr at h
 split at h <;> first
  | rfl
  | cases h
theorem staysW_ia {o : O} {d : Option Nat} {p i c i' c' : Nat} (h : staysW st o d (.view p i c) = true) : staysW st o d (.loc p i' c') = true := by
 simp only [staysW] at h ⊢
 rw [h,Bool.or_true]
theorem staysW_pure {o : O} {d : Option Nat} {v : A} (h : pure v = true) : staysW st o d v = true := by
 cases v <;> first
  | exact h
  | simp [pure,pureC] at h
theorem adr_stays {d : Option Nat} {o y : O} {dy : Option Nat} {v : A} (hn : (∀ z zero,y ≠ .alloc z zero) ∧ ∀ z zero n ps,y ≠ .bsl z zero n ps) (hp : adr o = true) (h : ∀ k ∈ uses o,stays st y dy k = true) (he : evalV cf io d st o = some v) : staysW st y dy v = true := by
 cases o <;> first
  | (simp [adr] at hp; done)
  | skip
 ·rename_i x
  cases x with
  | c a => simp [adr] at hp
  | t k =>
    have hk := h k (by simp [uses,opdU])
    simp only [evalV,Opd.v] at he
    obtain rfl := Option.some.inj he
    rw [stays_W hn] at hk; exact hk
 ·rename_i x
  cases x with
  | c a => simp [adr] at hp
  | t k =>
    have hk := h k (by simp [uses,opdU])
    simp only [evalV,Opd.v] at he
    rw [stays_W hn] at hk
    split at he
    ·rename_i p i c e
     obtain ⟨R,_,he⟩ := Option.map_eq_some_iff.1 he
     subst he; rw [e] at hk; exact hk
    ·cases he; exact staysW_pure rfl
    ·rename_i f caps e
     cases he
     rw [e] at hk
     exact staysW_pure hk
    ·cases he
 ·rename_i off x
  cases x with
  | c a => simp [adr] at hp
  | t k =>
    have hk := h k (by simp [uses,opdU])
    simp only [evalV,Opd.v] at he
    rw [stays_W hn] at hk
    split at he
    ·rename_i p i c e
     obtain ⟨R,_,he⟩ := Option.map_eq_some_iff.1 he
     subst he; rw [e] at hk; exact hk
    ·cases he; exact staysW_pure rfl
    ·cases he
 ·rename_i z x i
  cases x with
  | c a => simp [adr] at hp
  | t k =>
    have hk := h k (by simp [uses,opdU])
    simp only [evalV] at he
    split at he
    ·rename_i p j c _ e
     have e : st.t k = .view p j c := e
     rw [stays_W hn,e] at hk
     obtain ⟨R,_,he⟩ := Option.bind_eq_some_iff.1 he
     split at he
     ·cases he; exact staysW_ia hk
     ·cases he
    ·split at he
     ·obtain ⟨R,_,he⟩ := Option.map_eq_some_iff.1 he
      subst he; exact staysW_pure rfl
     ·cases he
    ·cases he
 ·rename_i len z x i
  cases x with
  | c a => simp [adr] at hp
  | t k =>
    have hk := h k (by simp [uses,opdU])
    simp only [evalV] at he
    rw [stays_W hn] at hk
    split at he
    ·rename_i p j c _ e
     have e : st.t k = .loc p j c := e
     split at he
     ·obtain ⟨R,_,he⟩ := Option.map_eq_some_iff.1 he
      subst he; rw [e] at hk; exact hk
     ·cases he
    ·split at he
     ·cases he; exact staysW_pure rfl
     ·cases he
    ·cases he
theorem readOk_flag {x : Op} {s : Nat} (ha : x.av = [gs]) (hd : x.d = some s) (v : A) : readOk st x v = ((!x.pq || pure v) && isAny (st.t s)) := by
 simp [readOk,ha,hd]
theorem isAny_is {a : A} (h : isAny a = true) : a = .any := by cases a <;> first | rfl | simp [isAny] at h
theorem rb_core {x y : Op} {s : Nat} (h : RB x y s) {st : St} (hs : y.av.all (stays st y.o y.d) = true) {st1 : St} (h1 : stepW cf io y.d st y.o = some st1) :
 evalV cf io x.d st x.o = evalV cf io x.d st1 x.o ∧ st1.t s = st.t s ∧ ∀ v,evalV cf io x.d st x.o = some v →
  y.av.all (stays (st.put' s v) y.o y.d) = true ∧ stepW cf io y.d (st.put' s v) y.o = some (st1.put' s v) := by
 rw [List.all_eq_true] at hs
 have hstay : ∀ k ∈ y.av,k ∉ uses y.o → y.d ≠ some k → k < gs → st1.t k = st.t k ∧ ∀ p i c,(st.t k = .loc p i c ∨ st.t k = .view p i c) → st1.r p = st.r p := fun k hk a b c => wr_stay h.wr (hs k hk) c a b h1
 refine ⟨simple_congr (adr_simple h.ad) fun k hk => ?_,(hstay s h.sa h.su h.sy h.sg).1,fun v hv => ⟨?_,?_⟩⟩
 ·obtain ⟨a,b,c,e⟩ := h.use k hk
  have := hstay k a b c e
  exact ⟨this.1.symm,fun p i c' hh => (this.2 p i c' hh).symm⟩
 ·rw [List.all_eq_true]
  intro k hk
  by_cases hks : k = s
  ·subst hks
   rw [stays_W h.na]
   have e : (st.put' k v).t k = v := by simp [St.put']
   rw [e,staysW_put h.su]
   exact adr_stays h.na h.ad (fun j hj => hs j (h.use j hj).1) hv
  ·rw [stays_put hks h.su]; exact hs k hk
 ·obtain ⟨q,f1,f2,f3⟩ := read_fix (o := x.o) (.inr h.ad) (fun k hk => hs k (h.use k hk).1) hv
  rw [(wr_eqv (cf := cf) (io := io) h.wr f1 h.sg h.su h.sy f2 f3).put,h1]; rfl
theorem stepG_comm5 {all : List Op} {x y : Op} {s : Nat} (h : RB x y s) {st s1 s2 : St} (h1 : stepG cf io all st x = some s1) (h2 : stepG cf io all s1 y = some s2) : ∃ t1,stepG cf io all st y = some t1 ∧ stepG cf io all t1 x = some s2 := by
 rw [stepG_r' h.xw h.xg] at h1
 rw [stepG_w h.yw h.yq h.yg] at h2
 obtain ⟨v,hv,h1⟩ := Option.bind_eq_some_iff.1 h1
 split at h1
 ·rename_i hq
  cases h1
  rw [h.xd] at h2
  split at h2
  ·rename_i hs
   have h2 : stepW cf io y.d (st.put' s v) y.o = some s2 := h2
   have hs : y.av.all (stays (st.put' s v) y.o y.d) = true := hs
   have hq' := hq
   rw [readOk_flag h.xa h.xd,Bool.and_eq_true] at hq'
   have hany := isAny_is hq'.2
   have hs0 : y.av.all (stays st y.o y.d) = true := by
    rw [List.all_eq_true] at hs ⊢
    intro k hk
    by_cases hks : k = s
    ·subst hks; rw [stays_W h.na,hany]; rfl
    ·rw [← stays_put (v := v) hks h.su]; exact hs k hk
   have hy : ∃ t1,stepW cf io y.d st y.o = some t1 := by
    have hs0' := hs0
    rw [List.all_eq_true] at hs0'
    obtain ⟨q,f1,f2,f3⟩ := read_fix (cf := cf) (io := io) (o := x.o) (.inr h.ad) (fun k hk => hs0' k (h.use k hk).1) hv
    have := (wr_eqv (cf := cf) (io := io) h.wr f1 h.sg h.su h.sy f2 f3).put
    have h2' := this.symm.trans h2
    obtain ⟨t1,e1,_⟩ := Option.map_eq_some_iff.1 h2'
    exact ⟨t1,e1⟩
   obtain ⟨t1,ht1⟩ := hy
   obtain ⟨c1,c2,c3⟩ := rb_core h hs0 ht1
   obtain ⟨_,c4⟩ := c3 v hv
   rw [c4] at h2
   cases h2
   refine ⟨t1,by rw [stepG_w h.yw h.yq h.yg,if_pos hs0,ht1],?_⟩
   rw [stepG_r' h.xw h.xg,← c1,hv,Option.bind_some]
   have hq2 : readOk t1 x v = true := by rw [readOk_flag h.xa h.xd,Bool.and_eq_true,c2]; exact hq'
   rw [if_pos hq2,h.xd]; rfl
  ·cases h2
 ·cases h1
theorem stepG_comm6 {all : List Op} {x y : Op} {s : Nat} (h : RB y x s) {st s1 s2 : St} (h1 : stepG cf io all st x = some s1) (h2 : stepG cf io all s1 y = some s2) : ∃ t1,stepG cf io all st y = some t1 ∧ stepG cf io all t1 x = some s2 := by
 rw [stepG_w h.yw h.yq h.yg] at h1
 rw [stepG_r' h.xw h.xg] at h2
 obtain ⟨v,hv,h2⟩ := Option.bind_eq_some_iff.1 h2
 split at h1
 ·rename_i hs
  split at h2
  ·rename_i hq
   cases h2
   obtain ⟨c1,c2,c3⟩ := rb_core h hs h1
   have hv' : evalV cf io y.d st y.o = some v := c1.trans hv
   obtain ⟨c4,c5⟩ := c3 v hv'
   rw [readOk_flag h.xa h.xd,Bool.and_eq_true,c2] at hq
   refine ⟨st.put y.d v,?_,?_⟩
   ·have hq2 : readOk st y v = true := by rw [readOk_flag h.xa h.xd,Bool.and_eq_true]; exact hq
    rw [stepG_r' h.xw h.xg,hv',Option.bind_some,if_pos hq2]
   ·rw [h.xd]
    show stepG cf io all (st.put' s v) x = some (s1.put' s v)
    rw [stepG_w h.yw h.yq h.yg,if_pos c4,c5]
  ·cases h2
 ·cases h1
structure RP (x y : Op) (s : Nat) : Prop where
 xa : x.av = []
 xw : x.w = false
 yw : y.w = true
 xq : x.pq = false
 xg : x.g = none
 yg : y.g = none
 ya : y.av = []
 yd : y.d = none
 xo : ∃ k,x.o = .mv (.t k) ∧ k < gs
 yo : ∃ n a v,y.o = .sto n a v
 xd : x.d = some s
 sg : s < gs
 su : s ∉ uses y.o
theorem apartP_is {x y : Op} (h : apartP x y = true) : y.pq = true ∧ ∃ s,RP x y s := by
 simp only [apartP,Bool.and_eq_true,Bool.not_eq_true',Option.isNone_iff_eq_none,List.isEmpty_iff] at h
 obtain ⟨hq,⟨⟨⟨⟨⟨⟨⟨⟨⟨h0,h1⟩,h2⟩,h3⟩,h4⟩,h5⟩,h6⟩,h7⟩,h8⟩,h9⟩,h10⟩ := h
 cases hd : x.d with
 | none => rw [hd] at h10; simp at h10
 | some s =>
   rw [hd] at h10
   simp only [Bool.and_eq_true,Bool.not_eq_true',List.contains_eq_mem,decide_eq_true_eq,decide_eq_false_iff_not] at h10
   refine ⟨hq,s,h0,h2,h3,h1,h4,h5,h6,h7,?_,?_,hd,h10.1,h10.2⟩
   ·split at h8
    ·rename_i k e; exact ⟨k,e,of_decide_eq_true h8⟩
    ·cases h8
   ·split at h9
    ·rename_i n a v e; exact ⟨n,a,v,e⟩
    ·cases h9
theorem comp_flat {u : A} (h : pure u = true) (j : Nat) : (∀ k z xs,comp u j ≠ .tok k z xs) ∧ ∀ q o n,comp u j ≠ .view q o n := by
 have hc : ∀ c ∈ u.cells,pureC c = true := by
  cases u <;> first
   | (intro c hc; simp only [A.cells,List.mem_singleton] at hc; subst hc; exact h)
   | (intro c hc; exact List.all_eq_true.1 h c hc)
 unfold comp
 cases e : u.cells[j]? with
 | none => simp
 | some c =>
   have := hc c (List.mem_of_getElem? e)
   simp only [Option.getD_some]
   exact ⟨fun k z xs e => (by rw [e] at this; cases this),fun q o n e => (by rw [e] at this; cases this)⟩
theorem pinN_flat {st : St} {i : Nat} (h : pure (st.t i) = true) : ∀ n : Nat,st.pinN i n = some st
 | 0 => rfl
 | n + 1 => by
   rw [St.pinN,pinN_flat h n,Option.bind_some,St.pin1]
   obtain ⟨h1,h2⟩ := comp_flat h n
   split
   ·rename_i k z xs e; exact absurd e (h1 _ _ _)
   ·rename_i q o m e; exact absurd e (h2 _ _ _)
   ·rfl
theorem pin_flat {st : St} {u : A} (h : pure u = true) : st.pin u = (dat u).map fun v => (v,st.put' gs .any) := by
 have e : (st.put' gs u).t gs = u := by simp [St.put']
 rw [St.pin,pinN_flat (by rw [e]; exact h),Option.bind_some,e]
 congr 1
 funext v
 congr 1
 simp only [St.put']
 congr 1
 funext j
 by_cases hj : j = gs <;> simp [hj]
theorem stoP_put {o : O} {s : Nat} {v : A} (h : s ∉ uses o) : stoP (st.put' s v) o = stoP st o := by
 cases o with
 | sto n a x =>
   have e1 := opdU_v (x := a) (st := st.put' s v) (st' := st) fun i hi => put'_ne (fun e => h (by simp [uses,← e,hi]))
   have e2 := opdU_v (x := x) (st := st.put' s v) (st' := st) fun i hi => put'_ne (fun e => h (by simp [uses,← e,hi]))
   simp only [stoP,e1,e2,put'_r]
 | asg x =>
   have e2 := opdU_v (x := x) (st := st.put' s v) (st' := st) fun i hi => put'_ne (fun e => h (by simp [uses,← e,hi]))
   simp only [stoP,e2]
 | _ => rfl
theorem sto_flat {n : Nat} {a x : Opd} {s : Nat} {v : A} (hs : s < gs) (hu : s ∉ uses (.sto n a x)) (hp : stoP st (.sto n a x) = true) :
 stepW cf io none (st.put' s v) (.sto n a x) = (stepW cf io none st (.sto n a x)).map (·.put' s v) ∧ ∀ st',stepW cf io none st (.sto n a x) = some st' → ∀ k,k < gs → st'.t k = st.t k := by
 have e1 := opdU_v (x := a) (st := st.put' s v) (st' := st) fun i hi => put'_ne (fun e => hu (by simp [uses,← e,hi]))
 have e2 := opdU_v (x := x) (st := st.put' s v) (st' := st) fun i hi => put'_ne (fun e => hu (by simp [uses,← e,hi]))
 simp only [stoP,Bool.and_eq_true] at hp
 obtain ⟨hx,ha⟩ := hp
 cases ea : a.v st with
 | loc q i c =>
   rw [ea] at ha
   cases hR : st.r q with
   | none => simp only [hR] at ha; cases ha
   | some R =>
     simp only [hR] at ha
     have hb : R.b = false := by simpa using ha
     obtain ⟨b,z,xs⟩ := R
     cases hb
     simp only [stepW,e1,e2,ea,put'_r,hR,Option.bind_some,pin_flat hx]
     have hne : gs ≠ s := by omega
     constructor
     ·split
      ·cases hd : dat (x.v st) with
       | none => rfl
       | some w =>
         simp only [Option.map_some,Option.bind_some,put'_r,hR]
         split
         ·cases hxs : xs[i]? with
          | none => rfl
          | some e =>
            simp only [Option.bind_some]
            cases hcs : setCells e.cells c w.cells with
            | none => rfl
            | some cs =>
              simp only [Option.map_some,St.put]
              rw [put'_put' _ hne,setRoot_put]
         ·rfl
      ·rfl
     ·intro st' h k hk
      split at h
      ·obtain ⟨⟨w,st1⟩,h1,h⟩ := Option.bind_eq_some_iff.1 h
       obtain ⟨w',_,h1⟩ := Option.map_eq_some_iff.1 h1
       cases h1
       simp only at h
       split at h
       ·obtain ⟨R',_,h⟩ := Option.bind_eq_some_iff.1 h
        obtain ⟨e,_,h⟩ := Option.bind_eq_some_iff.1 h
        obtain ⟨cs,_,h⟩ := Option.map_eq_some_iff.1 h
        subst h
        have hkg : k ≠ gs := by omega
        simp [St.put,St.setRoot,St.put',hkg]
       ·cases h
      ·cases h
 | _ => rw [ea] at ha; cases ha
theorem stepG_p {all : List Op} {x y : Op} {s : Nat} (h : RP x y s) (hq : y.pq = true) (st : St) : stepG cf io all st y = if stoP st y.o then stepW cf io none st y.o else none := by
 simp only [stepG,h.yg,guardOf,step,chkW,h.yw,hq,h.ya,h.yd,List.all_nil,List.isEmpty_nil,Bool.not_true,Bool.and_false,Bool.false_eq_true,if_false,Bool.false_or,Bool.and_true,if_true]
theorem stepG_mv {all : List Op} {x y : Op} {s : Nat} (h : RP x y s) {k : Nat} (hk : x.o = .mv (.t k)) (st : St) : stepG cf io all st x = some (st.put' s (st.t k)) := by
 rw [stepG_r h.xw h.xa h.xg,hk,h.xq,h.xd]; rfl
theorem stepG_comm7 {all : List Op} {x y : Op} {s : Nat} (h : RP x y s) (hq : y.pq = true) {st s1 s2 : St} (h1 : stepG cf io all st x = some s1) (h2 : stepG cf io all s1 y = some s2) : ∃ t1,stepG cf io all st y = some t1 ∧ stepG cf io all t1 x = some s2 := by
 obtain ⟨k,hk,hkg⟩ := h.xo
 obtain ⟨n,a,u,ho⟩ := h.yo
 rw [stepG_mv h hk] at h1
 cases h1
 rw [stepG_p h hq,stoP_put h.su] at h2
 split at h2
 ·rename_i hp
  have hsu := h.su
  rw [ho] at h2 hp hsu
  obtain ⟨c1,c2⟩ := sto_flat (cf := cf) (io := io) (v := st.t k) h.sg hsu hp
  rw [c1] at h2
  obtain ⟨t1,e1,e2⟩ := Option.map_eq_some_iff.1 h2
  refine ⟨t1,?_,?_⟩
  ·rw [stepG_p h hq,ho,if_pos hp,e1]
  ·rw [stepG_mv h hk,c2 t1 e1 k hkg,e2]
 ·cases h2
theorem stepG_comm8 {all : List Op} {x y : Op} {s : Nat} (h : RP y x s) (hq : x.pq = true) {st s1 s2 : St} (h1 : stepG cf io all st x = some s1) (h2 : stepG cf io all s1 y = some s2) : ∃ t1,stepG cf io all st y = some t1 ∧ stepG cf io all t1 x = some s2 := by
 obtain ⟨k,hk,hkg⟩ := h.xo
 obtain ⟨n,a,u,ho⟩ := h.yo
 rw [stepG_p h hq] at h1
 split at h1
 ·rename_i hp
  have hsu := h.su
  rw [stepG_mv h hk] at h2
  refine ⟨st.put' s (st.t k),stepG_mv h hk st,?_⟩
  rw [stepG_p h hq,stoP_put h.su,if_pos hp]
  rw [ho] at h1 hp hsu ⊢
  obtain ⟨c1,c2⟩ := sto_flat (cf := cf) (io := io) (v := st.t k) h.sg hsu hp
  rw [c1,h1,Option.map_some,← h2,c2 s1 h1 k hkg]
 ·cases h1
structure RQ (all : List Op) (x y : Op) (d : Nat) (u : Opd) : Prop where
 xw : x.w = false
 yw : y.w = true
 yg : y.g = none
 ya : y.av = []
 yo : y.o = .asg u
 yd : y.d = some d
 ud : d ∉ (uses x.o ++ flagU x) ++ guardU all x.g
 xd : x.d ≠ some d
 xu : ∀ s,x.d = some s → s ∉ uses y.o
theorem apartQ_is {all : List Op} {x y : Op} (h : apartQ all x y = true) : y.pq = true ∧ ∃ d u,RQ all x y d u := by
 simp only [apartQ,Bool.and_eq_true,Bool.not_eq_true',Option.isNone_iff_eq_none,List.isEmpty_iff] at h
 obtain ⟨hq,⟨⟨⟨⟨⟨h0,h1⟩,h2⟩,h3⟩,h4⟩,h5⟩,h6⟩ := h
 cases hd : y.d with
 | none => rw [hd] at h5; simp at h5
 | some d =>
   rw [hd] at h5
   simp only [Bool.and_eq_true,Bool.not_eq_true',List.contains_eq_mem,decide_eq_false_iff_not,bne_iff_ne,ne_eq] at h5
   split at h4
   ·rename_i u e
    refine ⟨hq,d,u,h0,h1,h2,h3,e,hd,h5.1,h5.2,fun s hs => ?_⟩
    rw [hs] at h6
    simpa using h6
   ·cases h4
theorem stepG_q {all : List Op} {x y : Op} {d : Nat} {u : Opd} (h : RQ all x y d u) (hq : y.pq = true) (st : St) : stepG cf io all st y = if stoP st y.o then some (st.put (some d) (u.v st)) else none := by
 simp only [stepG,h.yg,guardOf,step,chkW,h.yw,hq,h.ya,h.yd,List.all_nil,List.isEmpty_nil,Bool.not_true,Bool.and_false,Bool.false_eq_true,if_false,Bool.false_or,Bool.and_true,if_true]
 rw [h.yo]
 by_cases hp : stoP st (.asg u) = true
 ·rw [if_pos hp,if_pos hp]
  simp only [stoP] at hp
  simp only [stepW]
  split
  ·rename_i e; rw [e] at hp; cases hp
  ·rename_i e; rw [e] at hp; cases hp
  ·rfl
 ·rw [if_neg hp,if_neg hp]
theorem stoP_d {x : Op} {o : O} (h : ∀ s,x.d = some s → s ∉ uses o) (st : St) (v : A) : stoP (st.put x.d v) o = stoP st o := by
 cases hd : x.d with
 | none => rfl
 | some s => exact stoP_put (h s hd)
theorem opd_d {x : Op} {u : Opd} (h : ∀ s,x.d = some s → s ∉ uses (.asg u)) (st : St) (v : A) : u.v (st.put x.d v) = u.v st := by
 cases hd : x.d with
 | none => rfl
 | some s => exact opdU_v fun i hi => put'_ne (fun e => h s hd (by simp [uses,← e,hi]))
theorem resG_q {all : List Op} {x y : Op} {d : Nat} {u : Opd} (h : RQ all x y d u) (st : St) (v : A) : resG cf io all (st.put (some d) v) x = resG cf io all st x :=
 resG_congr (put_r _ _ _) fun i hi => put_t _ _ _ fun e => by cases e; exact h.ud hi
theorem stepG_comm9 {all : List Op} {x y : Op} {d : Nat} {u : Opd} (h : RQ all x y d u) (hq : y.pq = true) {st s1 s2 : St} (h1 : stepG cf io all st x = some s1) (h2 : stepG cf io all s1 y = some s2) : ∃ t1,stepG cf io all st y = some t1 ∧ stepG cf io all t1 x = some s2 := by
 rw [stepG_res h.xw] at h1
 obtain ⟨v,hv,rfl⟩ := Option.map_eq_some_iff.1 h1
 have hu : ∀ s,x.d = some s → s ∉ uses (.asg u) := fun s hs => by have := h.xu s hs; rwa [h.yo] at this
 rw [stepG_q h hq,stoP_d h.xu] at h2
 split at h2
 ·rename_i hp
  cases h2
  rw [opd_d hu]
  refine ⟨st.put (some d) (u.v st),by rw [stepG_q h hq,if_pos hp],?_⟩
  rw [stepG_res h.xw,resG_q h,hv,Option.map_some,put_comm]
  intro i e1 e2
  cases e1
  exact h.xd e2
 ·cases h2
theorem stepG_comm10 {all : List Op} {x y : Op} {d : Nat} {u : Opd} (h : RQ all y x d u) (hq : x.pq = true) {st s1 s2 : St} (h1 : stepG cf io all st x = some s1) (h2 : stepG cf io all s1 y = some s2) : ∃ t1,stepG cf io all st y = some t1 ∧ stepG cf io all t1 x = some s2 := by
 rw [stepG_q h hq] at h1
 split at h1
 ·rename_i hp
  cases h1
  rw [stepG_res h.xw,resG_q h] at h2
  obtain ⟨v,hv,rfl⟩ := Option.map_eq_some_iff.1 h2
  have hu : ∀ s,y.d = some s → s ∉ uses (.asg u) := fun s hs => by have := h.xu s hs; rwa [h.yo] at this
  refine ⟨st.put y.d v,by rw [stepG_res h.xw,hv]; rfl,?_⟩
  rw [stepG_q h hq,stoP_d h.xu,if_pos hp,opd_d hu,put_comm]
  intro i e1 e2
  cases e2
  exact h.xd e1
 ·cases h1
structure RM (x y : Op) (s : Nat) : Prop where
 yq : y.pq = true
 xw : x.w = false
 yw : y.w = true
 xg : x.g = none
 yg : y.g = none
 ya : y.av.isEmpty = false
 ko : (∃ n a v,y.o = .sto n a v ∧ y.d = none ∧ (slotR x.o = true ∧ (x.pq = true ∨ isMv x.o = true) ∨ isSlc x.o = true)) ∨ (∃ f args,y.o = .call f args ∧ simple x.o = true ∧ gs + 1 ∈ x.av) ∨ (∃ z b t u,y.o = .app z b t u ∧ (∃ d,y.d = some d) ∧ simple x.o = true ∧ gs ∈ x.av ∧ gs + 1 ∈ x.av ∧ gs + 2 ∈ x.av)
 us : ∀ k ∈ uses x.o,k ∈ y.av ∧ k ∉ uses y.o ∧ y.d ≠ some k ∧ k < gs
 xd : x.d = some s
 sg : s < gs
 su : s ∉ uses y.o
 sd : y.d ≠ some s
 sx : s ∉ uses x.o
 xs : gs ∈ x.av ↔ s ∈ y.av
 xc : cp + s ∉ y.av
theorem apartM_is {x y : Op} (h : apartM x y = true) : ∃ s,RM x y s := by
 simp only [apartM,Bool.and_eq_true,Bool.not_eq_true',Option.isNone_iff_eq_none] at h
 obtain ⟨h1,h2,h3,h4,h5,h6,h7,h8,h9⟩ := h
 cases hd : x.d with
 | none => rw [hd] at h9; cases h9
 | some s =>
   rw [hd] at h9
   simp only [Bool.and_eq_true,Bool.not_eq_true',List.contains_eq_mem,decide_eq_true_eq,decide_eq_false_iff_not,bne_iff_ne,ne_eq,List.all_eq_true,Bool.or_eq_true,beq_iff_eq,decide_eq_decide] at h9
   obtain ⟨a1,a2,a3,a4,a5,a6,a7⟩ := h9
   refine ⟨s,h1,h2,h3,h4,h5,h6,?_,?_,hd,a1,a2,a3,a4,a6,a7⟩
   ·split at h7
    ·rename_i n a v e
     simp only [Bool.and_eq_true,Bool.or_eq_true,Option.isNone_iff_eq_none] at h7
     exact .inl ⟨n,a,v,e,h7.1,h7.2⟩
    ·rename_i f args e
     simp only [Bool.and_eq_true,List.contains_eq_mem,decide_eq_true_eq] at h7
     exact .inr (.inl ⟨f,args,e,h7.1,h7.2⟩)
    ·rename_i z b t u e
     simp only [Bool.and_eq_true,List.contains_eq_mem,decide_eq_true_eq,Option.isSome_iff_exists] at h7
     exact .inr (.inr ⟨z,b,t,u,e,h7.1,h7.2.1,h7.2.2.1,h7.2.2.2.1,h7.2.2.2.2⟩)
    ·cases h7
   ·intro k hk
    have := List.all_eq_true.1 h8 k hk
    simp only [Bool.and_eq_true,Bool.not_eq_true',List.contains_eq_mem,decide_eq_true_eq,decide_eq_false_iff_not,bne_iff_ne,ne_eq] at this
    exact this
def okA (y : Op) (st : St) (a : A) : Prop :=
 match y.o with
 | .sto n b v => stoP st (.sto n b v) = true ∨ staysM st a = true
 | .call f args => staysL st (.call f args) y.d a = true
 | .app _ _ t _ => staysN st t a = true
 | _ => False
theorem okA_pure {x y : Op} {s : Nat} (h : RM x y s) {a : A} (ha : pure a = true) : okA y st a := by
 have e1 : staysM st a = true := by cases a <;> first | exact ha | (simp [pure,pureC] at ha; done)
 have e2 : ∀ o d,staysL st o d a = true := fun o d => by cases a <;> first | exact ha | (simp [pure,pureC] at ha; done)
 have e3 : ∀ t,staysN st t a = true := fun t => by cases a <;> first | exact ha | (simp [pure,pureC] at ha; done)
 rcases h.ko with ⟨n,a',v,e,_⟩ | ⟨f,args,e,_⟩ | ⟨z,b,t,u,e,_⟩
 ·simp only [okA,e]; exact .inr e1
 ·simp only [okA,e]; exact e2 _ _
 ·simp only [okA,e]; exact e3 _
theorem okA_any {x y : Op} {s : Nat} (h : RM x y s) : okA y st .any := by
 rcases h.ko with ⟨n,a',v,e,_⟩ | ⟨f,args,e,_⟩ | ⟨z,b,t,u,e,_⟩
 ·simp only [okA,e]; exact .inr rfl
 ·simp only [okA,e]; rfl
 ·simp only [okA,e]; rfl
theorem stoM_av {x y : Op} {s : Nat} (h : RM x y s) (hc : stoM st y.av y.d y.o = true) {k : Nat} (hk : k ∈ y.av) (hg : k < gs) : okA y st (st.t k) := by
 have hg' : ¬ gs ≤ k := by omega
 rcases h.ko with ⟨n,a',v,e,_⟩ | ⟨f,args,e,_⟩ | ⟨z,b,t,u,e,_⟩
 ·simp only [okA,e]
  rw [e] at hc
  simp only [stoM,Bool.or_eq_true,Bool.and_eq_true,List.all_eq_true,decide_eq_true_eq] at hc
  exact hc.imp id fun h => (h.2 k hk).resolve_left hg'
 ·simp only [okA,e]
  rw [e] at hc
  simp only [stoM,Bool.or_eq_true,Bool.and_eq_true,List.all_eq_true,decide_eq_true_eq] at hc
  exact (hc.2.1 k hk).resolve_left hg'
 ·simp only [okA,e]
  rw [e] at hc
  simp only [stoM,Bool.or_eq_true,List.all_eq_true,decide_eq_true_eq] at hc
  exact (hc k hk).resolve_left hg'
def CpOk (y : Op) (st : St) : Prop := ∀ f args,y.o = .call f args → ∀ k ∈ y.av,cp ≤ k → staysP y.d (st.t (k - cp)) = true
theorem rootOk_is {o : O} {d : Option Nat} {p : Nat} (h : rootOk st o d p = true) : freeAt st o d p = true ∧ ∀ p' ∈ cellRoots st.r p,rootOk st o d p' = true := by
 simp only [rootOk,Bool.and_eq_true,List.all_eq_true,List.isEmpty_iff] at h
 refine ⟨h.1,fun p' hp => ?_⟩
 obtain ⟨h1,h2⟩ := h.2 p' hp
 simp only [rootOk,h1,h2,List.all_nil,Bool.and_true]
theorem sto_put {q d : Option Nat} {s : Nat} {v : A} (hv : Fix q v) (hs : s < gs) (hV : Var q d st) {n : Nat} {a x : Opd} (ha : a.v (st.put' s v) = a.v st) (hx : x.v (st.put' s v) = x.v st) (hd : d ≠ some s)
 {r i c : Nat} {R : Root} (er : a.v st = .loc r i c) (eR : st.r r = some R) (hb : R.b = true) : stepW cf io d (st.put' s v) (.sto n a x) = (stepW cf io d st (.sto n a x)).map (·.put' s v) := by
 have hne : gs ≠ s := by omega
 obtain ⟨b,z,xs⟩ := R
 cases hb
 have hVb : ∀ e : A,Var q d ((st.put' gs (x.v st)).setRoot r (some ⟨true,z,[e]⟩)) := fun e =>
  ⟨hV.lt,hV.ne,fun p hp => by
    by_cases h : p = r
    ·exact ⟨⟨true,z,[e]⟩,by simp only [St.setRoot,h,if_true],rfl⟩
    ·obtain ⟨R,h1,h2⟩ := hV.b p hp
     exact ⟨R,by simp only [St.setRoot,if_neg h]; exact h1,h2⟩⟩
 simp only [stepW,ha,hx,er]
 split
 ·rw [show (st.put' s v).r r = some ⟨true,z,xs⟩ from eR,eR]
  simp only [Option.bind_some]
  split
  ·rename_i e _
   by_cases hcd : r < 1000 ∧ c + n ≤ e.cells.length ∧ c + n ≤ 1000 ∧ (x.v st).cells.all (solid st.r) = true
   ·have hcd' : r < 1000 ∧ c + n ≤ e.cells.length ∧ c + n ≤ 1000 ∧ (x.v st).cells.all (solid (st.put' s v).r) = true := hcd
    rw [if_pos hcd',if_pos hcd,put'_put' _ hne,setRoot_put,(absorbs_eqv hv hs n 0 (hVb _)).1]
    cases ((st.put' gs (x.v st)).setRoot r (some ⟨true,z,[blank e c n]⟩)).absorbs r c 0 n with
    | none => rfl
    | some y => simp only [Option.map_some]; rw [put'_put' _ hne,setRoot_put,put_put' _ hd]
   ·have hcd' : ¬ (r < 1000 ∧ c + n ≤ e.cells.length ∧ c + n ≤ 1000 ∧ (x.v st).cells.all (solid (st.put' s v).r) = true) := hcd
    rw [if_neg hcd',if_neg hcd]; rfl
  ·rename_i h; cases h
  ·rfl
 ·rfl
theorem okA_fix {x y : Op} {s : Nat} (h : RM x y s) {v : A} (hf : ∀ n a u,y.o = .sto n a u → stoP st (.sto n a u) = false) (hv : okA y st v) : ∃ q,Fix q v ∧ (∀ p i c,(v = .loc p i c ∨ v = .view p i c) → q = some p) ∧ (q = none ∨ ∃ p i c,q = some p ∧ (v = .loc p i c ∨ v = .view p i c)) := by
 have any : ∃ q,Fix q A.any ∧ (∀ p i c,((A.any = .loc p i c) ∨ A.any = .view p i c) → q = some p) ∧ (q = none ∨ ∃ p i c,q = some p ∧ (A.any = .loc p i c ∨ A.any = .view p i c)) := ⟨none,.inl (.inr rfl),fun p i c e => (by rcases e with e | e <;> cases e),.inl rfl⟩
 have pur : ∀ u : A,pure u = true → ∃ q,Fix q u ∧ (∀ p i c,((u = .loc p i c) ∨ u = .view p i c) → q = some p) ∧ (q = none ∨ ∃ p i c,q = some p ∧ (u = .loc p i c ∨ u = .view p i c)) := fun u hu => ⟨none,.inl (.inl hu),fun p i c e => (by rcases e with e | e <;> subst e <;> simp [pure,pureC] at hu),.inl rfl⟩
 have lc : ∀ p i c,∃ q,Fix q (A.loc p i c) ∧ (∀ p' i' c',((A.loc p i c = .loc p' i' c') ∨ A.loc p i c = .view p' i' c') → q = some p') ∧ (q = none ∨ ∃ p' i' c',q = some p' ∧ (A.loc p i c = .loc p' i' c' ∨ A.loc p i c = .view p' i' c')) := fun p i c => ⟨some p,.inr ⟨p,i,c,rfl,.inl rfl⟩,fun p' i' c' e => (by rcases e with e | e <;> cases e; rfl),.inr ⟨p,i,c,rfl,.inl rfl⟩⟩
 have vw : ∀ p i c,∃ q,Fix q (A.view p i c) ∧ (∀ p' i' c',((A.view p i c = .loc p' i' c') ∨ A.view p i c = .view p' i' c') → q = some p') ∧ (q = none ∨ ∃ p' i' c',q = some p' ∧ (A.view p i c = .loc p' i' c' ∨ A.view p i c = .view p' i' c')) := fun p i c => ⟨some p,.inr ⟨p,i,c,rfl,.inr rfl⟩,fun p' i' c' e => (by rcases e with e | e <;> cases e; rfl),.inr ⟨p,i,c,rfl,.inr rfl⟩⟩
 rcases h.ko with ⟨n,a',v',e,_⟩ | ⟨f,args,e,_⟩ | ⟨z,b,t,u,e,_⟩
 ·simp only [okA,e,hf _ _ _ e,Bool.false_eq_true,false_or] at hv
  unfold staysM at hv
  split at hv
  ·exact lc _ _ _
  ·exact any
  ·exact pur _ hv
 ·simp only [okA,e] at hv
  unfold staysL at hv
  split at hv
  ·exact lc _ _ _
  ·exact vw _ _ _
  ·exact any
  ·exact pur _ hv
 ·simp only [okA,e] at hv
  unfold staysN at hv
  split at hv
  ·exact lc _ _ _
  ·exact vw _ _ _
  ·exact any
  ·exact pur _ hv
theorem app_put {q : Option Nat} {d z b s : Nat} {t u : Opd} {v : A} (hv : Fix q v) (hq : ∀ p,q = some p → ∀ r o n,t.v st = .view r o n → p ≠ r) (ht : t.v (st.put' s v) = t.v st) (hu : u.v (st.put' s v) = u.v st) (hd : (some d : Option Nat) ≠ some s) :
 stepW cf io (some d) (st.put' s v) (.app z b t u) = (stepW cf io (some d) st (.app z b t u)).map (·.put' s v) ∧ ∀ st1,stepW cf io (some d) st (.app z b t u) = some st1 → ∀ p,(∀ r o n,t.v st = .view r o n → p ≠ r) → st1.r p = st.r p := by
 simp only [stepW,ht,hu,put'_r]
 cases elems st.r (u.v st) with
 | none => exact ⟨rfl,fun st1 h1 => by cases h1⟩
 | some e =>
   obtain ⟨z2,ys⟩ := e
   simp only [Option.bind_some]
   cases htv : t.v st <;> simp only <;> first
    | exact ⟨rfl,fun st1 h1 => by cases h1⟩
    | skip
   ·split
    ·refine ⟨?_,fun st1 h1 p _ => by cases h1; rfl⟩
     simp only [Option.map_some]
     rw [put_put' _ hd]
    ·exact ⟨rfl,fun st1 h1 => by cases h1⟩
   ·rename_i k z1 xs
    split
    ·refine ⟨?_,fun st1 h1 p _ => by cases h1; rfl⟩
     simp only [Option.map_some]
     rw [St.killTok,map_put (hv.killTok k),put_put' _ hd]
     rfl
    ·exact ⟨rfl,fun st1 h1 => by cases h1⟩
   ·rename_i r o n
    have hr : ∀ p,q = some p → r ≠ p := fun p hp e => hq p hp r o n htv e.symm
    cases hR : st.r r with
    | none => exact ⟨rfl,fun st1 h1 => by cases h1⟩
    | some R =>
      simp only [Option.bind_some]
      split
      ·refine ⟨?_,fun st1 h1 p hp => ?_⟩
       ·simp only [Option.map_some]
        rw [St.kill,map_put (hv.kill hr),setRoot_put,put_put' _ hd]
        rfl
       ·cases h1
        have := hp r o n rfl
        simp [St.put,St.put',St.setRoot,St.kill,St.map,this]
      ·exact ⟨rfl,fun st1 h1 => by cases h1⟩
theorem app_gone {d z b : Nat} {t u : Opd} {st1 : St} (h1 : stepW cf io (some d) st (.app z b t u) = some st1) {r o n : Nat} (ht : t.v st = .view r o n) : st1.r r = none := by
 simp only [stepW,ht] at h1
 obtain ⟨e,_,h1⟩ := Option.bind_eq_some_iff.1 h1
 obtain ⟨R,_,h1⟩ := Option.bind_eq_some_iff.1 h1
 split at h1
 ·cases h1; simp [St.put,St.put',St.setRoot,St.kill,St.map]
 ·cases h1
theorem staysN_is {t : Opd} {a : A} (h : staysN st t a = true) : ∀ p i c,(a = .loc p i c ∨ a = .view p i c) → ∀ r o n,t.v st = .view r o n → p ≠ r := fun p i c e r o n ht => by
 rcases e with e | e <;> (rw [e] at h; simp only [staysN,ht] at h; simpa using h)
theorem sto_there {n : Nat} {a x : Opd} {st1 : St} (h1 : stepW cf io none st (.sto n a x) = some st1) {r i c : Nat} (er : a.v st = .loc r i c) : (st1.r r).isSome = true := by
 simp only [stepW,er] at h1
 split at h1
 ·obtain ⟨R,_,h1⟩ := Option.bind_eq_some_iff.1 h1
  split at h1
  ·split at h1
   ·obtain ⟨⟨cs,s1⟩,_,h1⟩ := Option.map_eq_some_iff.1 h1
    cases h1; simp [St.put,St.put',St.setRoot]
   ·cases h1
  ·obtain ⟨⟨u,s1⟩,_,h1⟩ := Option.bind_eq_some_iff.1 h1
   simp only at h1
   split at h1
   ·obtain ⟨R',_,h1⟩ := Option.bind_eq_some_iff.1 h1
    obtain ⟨e,_,h1⟩ := Option.bind_eq_some_iff.1 h1
    obtain ⟨cs,_,h1⟩ := Option.map_eq_some_iff.1 h1
    cases h1; simp [St.put,St.put',St.setRoot]
   ·cases h1
  ·cases h1
 ·cases h1
theorem sto_flat_z {n : Nat} {a x : Opd} (hp : stoP st (.sto n a x) = true) {st1 : St} (h : stepW cf io none st (.sto n a x) = some st1) (p : Nat) : (st1.r p).map (·.z) = (st.r p).map (·.z) := by
 simp only [stoP,Bool.and_eq_true] at hp
 obtain ⟨hx,ha⟩ := hp
 cases ea : a.v st with
 | loc q i c =>
   rw [ea] at ha
   cases hR : st.r q with
   | none => simp only [hR] at ha; cases ha
   | some R =>
     simp only [hR] at ha
     have hb : R.b = false := by simpa using ha
     obtain ⟨b,z,xs⟩ := R
     cases hb
     simp only [stepW,ea,hR,Option.bind_some,pin_flat hx] at h
     split at h
     ·obtain ⟨⟨w,st2⟩,h1,h⟩ := Option.bind_eq_some_iff.1 h
      obtain ⟨w',_,h1⟩ := Option.map_eq_some_iff.1 h1
      cases h1
      simp only at h
      split at h
      ·obtain ⟨R',hR',h⟩ := Option.bind_eq_some_iff.1 h
       obtain ⟨e,_,h⟩ := Option.bind_eq_some_iff.1 h
       obtain ⟨cs,_,h⟩ := Option.map_eq_some_iff.1 h
       subst h
       have hR' : st.r q = some R' := hR'
       rw [hR] at hR'
       cases hR'
       by_cases hpq : p = q
       ·subst hpq; simp [St.put,St.setRoot,hR]
       ·simp [St.put,St.setRoot,St.put',hpq]
      ·cases h
     ·cases h
 | _ => rw [ea] at ha; cases ha
theorem z_some {r r' : Nat → Option Root} {p : Nat} (h : (r' p).map (·.z) = (r p).map (·.z)) : (r p).isSome = (r' p).isSome := by
 cases h1 : r p <;> cases h2 : r' p <;> simp_all
theorem slc_congr {d : Option Nat} {o : O} (hsm : isSlc o = true) (h : ∀ k ∈ uses o,st.t k = st'.t k) (hz : (∀ p,(st'.r p).map (·.z) = (st.r p).map (·.z)) ∨ ∀ k ∈ uses o,∀ p i c,st.t k ≠ .view p i c) : evalV cf io d st o = evalV cf io d st' o := by
 cases o <;> first
  | (simp [isSlc] at hsm; done)
  | skip
 rename_i z x lo hi
 cases x with
 | c a => simp [isSlc] at hsm
 | t k =>
   have hk : st.t k = st'.t k := h k (by simp [uses,opdU])
   have e1 := optU_v (st := st) (st' := st') (x := lo) fun i hi' => h i (by simp [uses,hi'])
   have e2 := optU_v (st := st) (st' := st') (x := hi) fun i hi' => h i (by simp [uses,hi'])
   have hkv : Opd.v st (.t k) = st.t k := rfl
   have hkv' : Opd.v st' (.t k) = st.t k := hk.symm
   simp only [evalV,e1,e2,hkv,hkv']
   have key : ∀ (q off n : Nat),st.t k = .view q off n → (st'.r q).map (·.z) = (st.r q).map (·.z) := fun q off n e =>
    hz.elim (fun h => h q) fun h => absurd e (h k (by simp [uses,opdU]) q off n)
   clear hz e1 e2 h hk hkv hkv'
   generalize (Option.map (Opd.v st') lo).getD (.int .i64 0) = a1
   generalize Option.map (Opd.v st') hi = b1
   generalize st.t k = c1 at key ⊢
   split
   ·rfl
   ·rfl
   ·rename_i q off n
    have := key q off n rfl
    cases h1 : st.r q <;> cases h2 : st'.r q <;> simp_all
   ·rename_i q off n
    have := key q off n rfl
    cases h1 : st.r q <;> cases h2 : st'.r q <;> simp_all
   ·rfl
theorem rm_put {x y : Op} {s : Nat} (h : RM x y s) (hc : stoM st y.av y.d y.o = true) {v : A} (hv : okA y st v) {k : Nat} (hk : k < gs) (hu : k ∉ uses y.o) (hd : y.d ≠ some k) :
 stepW cf io y.d (st.put' k v) y.o = (stepW cf io y.d st y.o).map (·.put' k v) ∧ (simple x.o = true → slotR x.o = false → ∀ st1,stepW cf io y.d st y.o = some st1 → ∀ p i c,(v = .loc p i c ∨ v = .view p i c) → st1.r p = st.r p) ∧ ∀ st1,stepW cf io y.d st y.o = some st1 → thereV st v = thereV st1 v := by
 by_cases hflat : ∃ n a u,y.o = .sto n a u ∧ stoP st (.sto n a u) = true
 ·obtain ⟨n,a,u,e,hp⟩ := hflat
  have ed : y.d = none ∧ (slotR x.o = true ∨ isSlc x.o = true) := by
   rcases h.ko with ⟨_,_,_,e',ed,hs⟩ | ⟨_,_,e',_⟩ | ⟨_,_,_,_,e',_⟩
   ·exact ⟨ed,hs.imp (·.1) id⟩
   ·rw [e] at e'; cases e'
   ·rw [e] at e'; cases e'
  rw [e,ed.1]
  rw [e] at hu
  refine ⟨(sto_flat (cf := cf) (io := io) hk hu hp).1,fun h1 h2 => ?_,fun st1 h1 => thereV_congr fun p i c _ => z_some (sto_flat_z hp h1 p)⟩
  rcases ed.2 with h3 | h3
  ·rw [h2] at h3; cases h3
  ·cases ho : x.o <;> rw [ho] at h3 h1 <;> first
    | (simp [isSlc] at h3; done)
    | (simp [simple] at h1; done)
 have hnf : ∀ n a u,y.o = .sto n a u → stoP st (.sto n a u) = false := fun n a u e => by
  cases hb : stoP st (.sto n a u) with
  | false => rfl
  | true => exact absurd ⟨n,a,u,e,hb⟩ hflat
 obtain ⟨q,hf,hq,hq2⟩ := okA_fix h hnf hv
 have th : ∀ {st1 : St},(∀ p i c,(v = .loc p i c ∨ v = .view p i c) → st1.r p = st.r p) → thereV st v = thereV st1 v := fun hh => thereV_congr fun p i c e => by rw [hh p i c e]
 rcases h.ko with ⟨n,a,u,e,ed,hs⟩ | ⟨f,args,e,_⟩ | ⟨z,b,t,u,e,⟨d,ed⟩,_⟩
 ·have hno : simple x.o = true → slotR x.o = false → False := fun h1 h2 => by
   rcases hs with h3 | h3
   ·rw [h2] at h3; cases h3.1
   ·cases ho : x.o <;> rw [ho] at h3 h1 <;> first
     | (simp [isSlc] at h3; done)
     | (simp [simple] at h1; done)
  have hf0 := hnf n a u e
  rw [e,ed] at hc ⊢
  rw [e] at hu
  simp only [stoM,hf0,Bool.false_or,Bool.and_eq_true] at hc
  have hc := hc.1
  have e1 := opdU_v (x := a) (st := st.put' k v) (st' := st) fun i hi => put'_ne (fun e => hu (by simp [uses,← e,hi]))
  have e2 := opdU_v (x := u) (st := st.put' k v) (st' := st) fun i hi => put'_ne (fun e => hu (by simp [uses,← e,hi]))
  simp only [okA,e,hf0,Bool.false_eq_true,false_or] at hv
  have hV : Var q none st := by
   rcases hq2 with e0 | ⟨p,i,c,eq,e1 | e1⟩
   ·rw [e0]; exact Var.no _ _
   ·rw [e1] at hv
    simp only [staysM,Bool.and_eq_true,decide_eq_true_eq] at hv
    rw [eq]
    refine ⟨fun p' e => (by cases e; exact hv.1),fun p' _ e => (by cases e),fun p' e => ?_⟩
    cases e
    have := hv.2
    split at this
    ·rename_i R' hR; exact ⟨R',hR,this⟩
    ·cases this
   ·rw [e1] at hv; simp [staysM,pure,pureC] at hv
  split at hc
  ·rename_i r i c er
   obtain ⟨R,eR⟩ := Option.isSome_iff_exists.1 hc
   by_cases hb : R.b = true
   ·refine ⟨sto_put hf hk hV e1 e2 (by simp) er eR hb,fun h1 h2 => (hno h1 h2).elim,fun st1 h1 => thereV_congr fun p i' c' ep => ?_⟩
    by_cases hpr : p = r
    ·rw [hpr,sto_there h1 er,eR]; rfl
    ·have hpq := hq p i' c' ep
     have he := sto_eqv (cf := cf) (io := io) (n := n) hf hk hV e1 e2 (by simp) (fun p' hp' => by rw [hpq] at hp'; cases hp'; simp [touch,er]; exact hpr)
     rw [he.keep st1 h1 p hpq]
   ·have he := sto_eqv (cf := cf) (io := io) (n := n) hf hk hV e1 e2 (by simp) (fun p' hp' => by
     obtain ⟨R',h1,h2⟩ := hV.b p' hp'
     simp only [touch,er,List.mem_singleton]
     intro e; rw [e,eR] at h1; cases h1; exact hb h2)
    exact ⟨he.put,fun h1 h2 => (hno h1 h2).elim,fun st1 h1 => th fun p i' c' ep => he.keep st1 h1 p (hq p i' c' ep)⟩
  ·cases hc
 ·have hO : VarO y.o q y.d st ∧ ∀ p,q = some p → p ∉ touch st y.o := by
   rw [e] at hc
   simp only [stoM,Bool.and_eq_true] at hc
   simp only [okA,e] at hv
   have key : ∀ p,rootOk st (.call f args) y.d p = true → q = some p → VarO y.o q y.d st ∧ ∀ p,q = some p → p ∉ touch st y.o := fun p hp eq => by
    have hfr := (rootOk_is hp).1
    have hfa := freeAt_is hfr
    rw [e]
    refine ⟨⟨fun p' e' => (by rw [eq] at e'; cases e'; exact hfa.2.2.2.2),.inr (.inr (.inr ⟨hc.1,fun p' e' => (by rw [eq] at e'; cases e'; exact hfr)⟩))⟩,fun p' e' => (by rw [eq] at e'; cases e'; exact hfa.2.1)⟩
   rcases hq2 with e0 | ⟨p,i,c,eq,e1 | e1⟩
   ·rw [e0]; exact ⟨VarO.no _ _ _,fun p e => by cases e⟩
   ·rw [e1] at hv; exact key p hv eq
   ·rw [e1] at hv; exact key p hv eq
  have he := wr_eqv (cf := cf) (io := io) (d := y.d) (st := st) (o := y.o) (by rw [e]; rfl) hf hk hu hd hO.1 hO.2
  exact ⟨he.put,fun _ _ st1 h1 p i c hp => he.keep st1 h1 p (hq p i c hp),fun st1 h1 => th fun p i c hp => he.keep st1 h1 p (hq p i c hp)⟩
 ·rw [e,ed] at hc ⊢
  rw [e] at hu
  rw [ed] at hd
  have e1 := opdU_v (x := t) (st := st.put' k v) (st' := st) fun i hi => put'_ne (fun e => hu (by simp [uses,← e,hi]))
  have e2 := opdU_v (x := u) (st := st.put' k v) (st' := st) fun i hi => put'_ne (fun e => hu (by simp [uses,← e,hi]))
  simp only [okA,e] at hv
  have hno := staysN_is hv
  have ha := app_put (cf := cf) (io := io) (z := z) (b := b) hf (fun p hp => by
   rcases hq2 with e0 | ⟨p',i,c,eq,e1⟩
   ·rw [e0] at hp; cases hp
   ·rw [eq] at hp; cases hp; exact hno p i c e1) e1 e2 hd
  have kp : ∀ st1,stepW cf io (some d) st (.app z b t u) = some st1 → ∀ p i c,(v = .loc p i c ∨ v = .view p i c) → st1.r p = st.r p := fun st1 h1 p i c hp => ha.2 st1 h1 p (hno p i c hp)
  exact ⟨ha.1,fun _ _ => kp,fun st1 h1 => th (kp st1 h1)⟩
theorem rm_slot {x y : Op} {s : Nat} (h : RM x y s) (hc : stoM st y.av y.d y.o = true) {k : Nat} (hv : okA y st (st.t k)) (hk : k < gs) (hu : k ∉ uses y.o) (hd : y.d ≠ some k) {st1 : St} (h1 : stepW cf io y.d st y.o = some st1) : st1.t k = st.t k := by
 have hp := (rm_put (cf := cf) (io := io) h hc hv hk hu hd).1
 rw [put'_self,h1] at hp
 simp only [Option.map_some,Option.some.injEq] at hp
 rw [hp]; simp [St.put']
theorem slotR_congr {d : Option Nat} {o : O} (hsm : slotR o = true) (h : ∀ k ∈ uses o,st.t k = st'.t k) : evalV cf io d st o = evalV cf io d st' o := by
 have hv : ∀ x : Opd,(∀ i ∈ opdU x,i ∈ uses o) → x.v st = x.v st' := fun x hx => opdU_v fun i hi => h i (hx i hi)
 cases o <;> first
  | (simp [slotR] at hsm; done)
  | skip
 ·rename_i x; have := hv x (by simp [uses]); simp only [evalV,this]
 ·rename_i op x y
  have e1 := hv x fun i hi => by simp [uses,hi]
  have e2 := hv y fun i hi => by simp [uses,hi]
  simp only [evalV,e1,e2]
 ·rename_i op x; have := hv x (by simp [uses]); simp only [evalV,this]
 ·rename_i off n x; have := hv x (by simp [uses]); simp only [evalV,this]
 ·rename_i x y
  have e1 := hv x fun i hi => by simp [uses,hi]
  have e2 := hv y fun i hi => by simp [uses,hi]
  simp only [evalV,e1,e2]
 ·rename_i x; have := hv x (by simp [uses]); simp only [evalV,this]
 ·rename_i x i; have := hv x (by simp [uses]); simp only [evalV,this]
theorem read_root {x : Op} {v : A} (he : evalV cf io x.d st x.o = some v) (hv : okV st x.o v = true) (hp : ¬ pure v = true) : ∃ p,(∃ i c,v = .loc p i c ∨ v = .view p i c) ∧ ((∃ k i c,k ∈ uses x.o ∧ (st.t k = .loc p i c ∨ st.t k = .view p i c)) ∨ ∃ k q i c,k ∈ uses x.o ∧ st.t k = .loc q i c ∧ p ∈ cellRoots st.r q) := by
 simp only [okV,Bool.or_eq_true,hp,Bool.false_eq_true,false_or] at hv
 have isA : ∃ p i c,v = .loc p i c ∨ v = .view p i c := by
  split at hv
  ·exact ⟨_,_,_,.inl rfl⟩
  ·exact ⟨_,_,_,.inr rfl⟩
  ·cases hv
 obtain ⟨p,i,c,hpv⟩ := isA
 have hv : (match x.o with | .ld _ (.t k) => (match st.t k with | .loc q _ _ => (match st.r q with | some R => R.b | none => false) | _ => false) | .mv (.t _) | .nilck (.t _) | .fa _ (.t _) | .iaa _ _ (.t _) _ | .ia _ (.t _) _ => true | _ => false) = true := by
  rcases hpv with e | e <;> (rw [e] at hv; exact hv)
 refine ⟨p,⟨i,c,hpv⟩,?_⟩
 have own : ∀ k,k ∈ uses x.o → ∀ q i' c',(st.t k = .loc q i' c' ∨ st.t k = .view q i' c') → ∀ i'' c'',v = .loc q i'' c'' ∨ v = .view q i'' c'' → (∃ k i c,k ∈ uses x.o ∧ (st.t k = .loc p i c ∨ st.t k = .view p i c)) ∨ ∃ k q i c,k ∈ uses x.o ∧ st.t k = .loc q i c ∧ p ∈ cellRoots st.r q := fun k hk q i' c' e i'' c'' e' => by
  have : p = q := by rcases hpv with a | a <;> rcases e' with b | b <;> (rw [a] at b; cases b <;> rfl)
  subst this
  exact .inl ⟨k,i',c',hk,e⟩
 split at hv
 ·rename_i n k ho
  rw [ho] at he
  split at hv
  ·rename_i q i' c' ek'
   split at hv
   ·rename_i R hR
    refine .inr ⟨k,q,i',c',by rw [ho]; simp [uses,opdU],ek',?_⟩
    simp only [evalV,Opd.v,ek',hR,Option.bind_some] at he
    obtain ⟨z,hz,he⟩ := Option.bind_eq_some_iff.1 he
    simp only [cellRoots,hR,hv,if_true,List.mem_flatMap]
    refine ⟨z,List.mem_of_getElem? hz,?_⟩
    cases n with
    | none =>
      simp only [getCells] at he
      refine ⟨v,List.mem_of_getElem? he,?_⟩
      rcases hpv with e | e <;> (rw [e]; simp [rootOf1])
    | some n =>
      simp only [getCells] at he
      split at he
      ·cases he; rcases hpv with e | e <;> cases e
      ·cases he
   ·cases hv
  ·cases hv
 ·rename_i k ho
  rw [ho] at he
  simp only [evalV,Opd.v,Option.some.injEq] at he
  have hpk : st.t k = .loc p i c ∨ st.t k = .view p i c := by rw [he]; exact hpv
  exact .inl ⟨k,i,c,by rw [ho]; simp [uses,opdU],hpk⟩
 ·rename_i k ho
  rw [ho] at he
  simp only [evalV,Opd.v] at he
  split at he
  ·rename_i q i' c' ek'
   obtain ⟨R,_,he⟩ := Option.map_eq_some_iff.1 he
   exact own k (by rw [ho]; simp [uses,opdU]) q i' c' (.inl ek') _ _ (.inl he.symm)
  ·cases he; rcases hpv with e | e <;> cases e
  ·cases he; rcases hpv with e | e <;> cases e
  ·cases he
 ·rename_i off k ho
  rw [ho] at he
  simp only [evalV,Opd.v] at he
  split at he
  ·rename_i q i' c' ek'
   obtain ⟨R,_,he⟩ := Option.map_eq_some_iff.1 he
   exact own k (by rw [ho]; simp [uses,opdU]) q i' c' (.inl ek') _ _ (.inl he.symm)
  ·cases he; rcases hpv with e | e <;> cases e
  ·cases he
 ·rename_i len z k j ho
  rw [ho] at he
  simp only [evalV,Opd.v] at he
  split at he
  ·rename_i q i' c' _ ek'
   split at he
   ·obtain ⟨R,_,he⟩ := Option.map_eq_some_iff.1 he
    exact own k (by rw [ho]; simp [uses,opdU]) q i' c' (.inl ek') _ _ (.inl he.symm)
   ·cases he
  ·split at he
   ·cases he; rcases hpv with e | e <;> cases e
   ·cases he
  ·cases he
 ·rename_i z k j ho
  rw [ho] at he
  simp only [evalV,Opd.v] at he
  split at he
  ·rename_i q off len _ ek'
   obtain ⟨R,_,he⟩ := Option.bind_eq_some_iff.1 he
   split at he
   ·cases he; exact own k (by rw [ho]; simp [uses,opdU]) q off len (.inr ek') _ _ (.inl rfl)
   ·cases he
  ·split at he
   ·obtain ⟨w,_,he⟩ := Option.map_eq_some_iff.1 he
    rw [← he] at hpv; rcases hpv with e | e <;> cases e
   ·cases he
  ·cases he
 ·cases hv
theorem rm_val {x y : Op} {s : Nat} (h : RM x y s) (hk : ∀ k ∈ uses x.o,okA y st (st.t k)) {v : A} (he : evalV cf io x.d st x.o = some v) (hr1 : (!x.pq || pure v) = true) (hr2 : gs + 1 ∈ x.av → okV st x.o v = true)
 (hr3 : (∃ z b t u,y.o = .app z b t u) → okA y st v ∨ ∃ st1,stepW cf io y.d st y.o = some st1 ∧ thereV st1 v = true) : okA y st v := by
 simp only [Bool.or_eq_true,Bool.not_eq_true'] at hr1
 by_cases hp : pure v = true
 ·exact okA_pure h hp
 rcases h.ko with ⟨n,a,u,e,ed,hq⟩ | ⟨f,args,e,hs,hg⟩ | ⟨z,b,t,u,e,⟨d,ed⟩,hs,_,hg,_⟩
 ·cases hflat : stoP st (.sto n a u) with
  | true => simp only [okA,e]; exact .inl hflat
  | false =>
  rcases hq with ⟨_,hq | hq⟩ | hq
  ·exact absurd (hr1.resolve_left (by rw [hq]; simp)) hp
  ·cases ho : x.o <;> rw [ho] at hq <;> first
    | (simp [isMv] at hq; done)
    | skip
   rename_i w
   cases w with
   | c a => simp [isMv] at hq
   | t k =>
     have := hk k (by rw [ho]; simp [uses,opdU])
     rw [ho] at he
     simp only [evalV,Option.some.injEq] at he
     subst he; exact this
  ·cases ho : x.o <;> rw [ho] at hq <;> first
    | (simp [isSlc] at hq; done)
    | skip
   rename_i z0 w lo hi
   cases w with
   | c a => simp [isSlc] at hq
   | t k =>
     have hkk := hk k (by rw [ho]; simp [uses,opdU])
     simp only [okA,e,hflat,Bool.false_eq_true,false_or] at hkk
     rw [ho] at he
     simp only [evalV] at he
     have hkv : Opd.v st (.t k) = st.t k := rfl
     rw [hkv] at he
     cases hst : st.t k <;> rw [hst] at he hkk <;> first
      | (simp only [staysM,pure,pureC] at hkk; cases hkk; done)
      | skip
     all_goals (split at he <;> first
      | (split at he <;> first
          | (cases he; exact okA_pure h rfl)
          | cases he)
      | (rename_i hh; cases hh)
      | cases he)
 ·obtain ⟨p,⟨i,c,hpv⟩,h2⟩ := read_root he (hr2 hg) hp
  have ek : ∀ a,okA y st a = (staysL st (.call f args) y.d a = true) := fun a => by simp only [okA,e]
  have fin : rootOk st (.call f args) y.d p = true → okA y st v := fun hp => by
   rw [ek]; rcases hpv with e | e <;> (rw [e]; exact hp)
  rcases h2 with ⟨k,i',c',hk',e'⟩ | ⟨k,q,i',c',hk',e',hm⟩
  ·have := hk k hk'
   rw [ek] at this
   exact fin (by rcases e' with e' | e' <;> (rw [e'] at this; exact this))
  ·have := hk k hk'
   rw [ek,e'] at this
   exact fin ((rootOk_is this).2 p hm)
 ·have ek : ∀ a,okA y st a = (staysN st t a = true) := fun a => by simp only [okA,e]
  rcases hr3 ⟨z,b,t,u,e⟩ with h3 | ⟨st1,h1,h3⟩
  ·exact h3
  obtain ⟨p,⟨i,c,hpv⟩,_⟩ := read_root he (hr2 hg) hp
  rw [e,ed] at h1
  have hne : ∀ r o n,t.v st = .view r o n → p ≠ r := fun r o n ht e' => by
   have := app_gone h1 ht
   rw [← e'] at this
   rcases hpv with e | e <;> (rw [e] at h3; simp only [thereV,this] at h3; cases h3)
  rw [ek]
  have : (match t.v st with | .view q _ _ => p != q | _ => true) = true := by
   split
   ·rename_i r o n ht; simpa using hne r o n ht
   ·rfl
  rcases hpv with e | e <;> (rw [e]; exact this)
theorem touch_put' {o : O} {s : Nat} {v : A} (h2 : s ∉ uses o) : touch (st.put' s v) o = touch st o := by
 cases o with
 | call f args =>
   have hf : f.v (st.put' s v) = f.v st := opdU_v fun i hi => put'_ne (fun e => h2 (by simp [uses,← e,hi]))
   have ha : args.map (Opd.v (st.put' s v)) = args.map (Opd.v st) := listU_v fun i hi => put'_ne (fun e => h2 (by simp only [uses]; exact List.mem_append_right _ (e ▸ hi)))
   simp only [touch,hf,ha,put'_r]
 | sto n a x =>
   have ha : a.v (st.put' s v) = a.v st := opdU_v fun i hi => put'_ne (fun e => h2 (by simp [uses,← e,hi]))
   simp only [touch,ha]
 | _ => rfl
theorem stay_put {x y : Op} {s : Nat} (h : RM x y s) {v : A} {f : Opd} {args : List Opd} (e : y.o = .call f args) (a : A) : staysL (st.put' s v) (.call f args) y.d a = staysL st (.call f args) y.d a := by
 have hsu := h.su
 have ht : touch (st.put' s v) (.call f args) = touch st (.call f args) := touch_put' (by rw [← e]; exact hsu)
 have hfr : ∀ p,freeAt (st.put' s v) (.call f args) y.d p = freeAt st (.call f args) y.d p := fun p => by simp only [freeAt,ht]
 have hro : ∀ p,rootOk (st.put' s v) (.call f args) y.d p = rootOk st (.call f args) y.d p := fun p => by simp only [rootOk,hfr,put'_r]
 cases a <;> simp only [staysL,hro]
theorem stay_putN {x y : Op} {s : Nat} (h : RM x y s) {v : A} {z b : Nat} {t u : Opd} (e : y.o = .app z b t u) (a : A) : staysN (st.put' s v) t a = staysN st t a := by
 have hsu := h.su
 rw [e] at hsu
 have ha : t.v (st.put' s v) = t.v st := opdU_v fun i hi => put'_ne (fun e => hsu (by simp [uses,← e,hi]))
 cases a <;> simp only [staysN,ha]
theorem stoM_put {x y : Op} {s : Nat} (h : RM x y s) {v : A} : stoM (st.put' s v) y.av y.d y.o = true ↔ (stoM (st.put' s v) [] y.d y.o = true ∧ ∀ k ∈ y.av,k < gs → okA y st ((st.put' s v).t k)) ∧ CpOk y (st.put' s v) := by
 have hle : ∀ k : Nat,gs ≤ k ↔ ¬ k < gs := fun k => Nat.not_lt.symm
 rcases h.ko with ⟨n,a',u,e,_⟩ | ⟨f,args,e,_⟩ | ⟨z,b,t,u,e,_⟩
 ·have hp : stoP (st.put' s v) (.sto n a' u) = stoP st (.sto n a' u) := stoP_put (by rw [← e]; exact h.su)
  have hm : ∀ b,staysM (st.put' s v) b = staysM st b := fun b => rfl
  have hE : CpOk y (st.put' s v) := fun f args e' => by rw [e] at e'; cases e'
  simp only [okA,e,stoM,hp,hm,hE,Bool.or_eq_true,Bool.and_eq_true,List.all_nil,and_true,List.all_eq_true,decide_eq_true_eq]
  constructor
  ·rintro (h1 | ⟨h1,h2⟩)
   ·exact ⟨.inl h1,fun _ _ _ => .inl h1⟩
   ·exact ⟨.inr h1,fun k hk hg => .inr ((h2 k hk).resolve_left (by omega))⟩
  ·rintro ⟨h1 | h1,h2⟩
   ·exact .inl h1
   ·by_cases hf : stoP st (.sto n a' u) = true
    ·exact .inl hf
    ·refine .inr ⟨h1,fun k hk => ?_⟩
     by_cases hg : k < gs
     ·exact .inr ((h2 k hk hg).resolve_left hf)
     ·exact .inl (by omega)
 ·have hE : CpOk y (st.put' s v) ↔ ∀ k ∈ y.av,cp ≤ k → staysP y.d ((st.put' s v).t (k - cp)) = true := ⟨fun hh => hh f args e,fun hh f' args' _ => hh⟩
  rw [hE]
  simp only [okA,e,stoM,Bool.or_eq_true,Bool.and_eq_true,List.all_nil,and_true,List.all_eq_true,decide_eq_true_eq,stay_put h e]
  constructor
  ·rintro ⟨h1,h2,h3⟩
   exact ⟨⟨h1,fun k hk hg => (h2 k hk).resolve_left (by omega)⟩,fun k hk hg => (h3 k hk).resolve_left (by omega)⟩
  ·rintro ⟨⟨h1,h2⟩,h3⟩
   refine ⟨h1,fun k hk => ?_,fun k hk => ?_⟩
   ·by_cases hg : k < gs
    ·exact .inr (h2 k hk hg)
    ·exact .inl (by omega)
   ·by_cases hg : k < cp
    ·exact .inl hg
    ·exact .inr (h3 k hk (by omega))
 ·have hE : CpOk y (st.put' s v) := fun f args e' => by rw [e] at e'; cases e'
  simp only [okA,e,stoM,hE,Bool.or_eq_true,List.all_nil,true_and,and_true,List.all_eq_true,decide_eq_true_eq,stay_putN h e]
  constructor
  ·exact fun h2 k hk hg => (h2 k hk).resolve_left (by omega)
  ·intro h2 k hk
   by_cases hg : k < gs
   ·exact .inr (h2 k hk hg)
   ·exact .inl (by omega)
theorem CpOk_put {x y : Op} {s : Nat} (h : RM x y s) {v : A} : CpOk y (st.put' s v) ↔ CpOk y st := by
 have key : ∀ k ∈ y.av,cp ≤ k → (st.put' s v).t (k - cp) = st.t (k - cp) := fun k hk hg => put'_ne fun e => h.xc (by rw [← e,Nat.add_sub_cancel' hg]; exact hk)
 exact ⟨fun hh f args e k hk hg => by rw [← key k hk hg]; exact hh f args e k hk hg,fun hh f args e k hk hg => by rw [key k hk hg]; exact hh f args e k hk hg⟩
theorem stoM_nil {x y : Op} {s : Nat} (h : RM x y s) {v : A} : stoM (st.put' s v) [] y.d y.o = stoM st [] y.d y.o := by
 have hsu := h.su
 rcases h.ko with ⟨n,a',u,e,_⟩ | ⟨f,args,e,_⟩ | ⟨z,b,t,u,e,_⟩
 ·rw [e] at hsu
  have ha : a'.v (st.put' s v) = a'.v st := opdU_v fun i hi => put'_ne (fun e => hsu (by simp [uses,← e,hi]))
  have hp : stoP (st.put' s v) (.sto n a' u) = stoP st (.sto n a' u) := stoP_put hsu
  simp only [e,stoM,ha,hp,put'_r,List.all_nil]
 ·rw [e] at hsu
  have hf : f.v (st.put' s v) = f.v st := opdU_v fun i hi => put'_ne (fun e => hsu (by simp [uses,← e,hi]))
  have ha : args.map (Opd.v (st.put' s v)) = args.map (Opd.v st) := listU_v fun i hi => put'_ne (fun e => hsu (by simp only [uses]; exact List.mem_append_right _ (e ▸ hi)))
  simp only [e,stoM,callN,hf,ha,List.all_nil]
 ·simp only [e,stoM,List.all_nil]
theorem stoM_iff {x y : Op} {s : Nat} (h : RM x y s) : stoM st y.av y.d y.o = true ↔ (stoM st [] y.d y.o = true ∧ ∀ k ∈ y.av,k < gs → okA y st (st.t k)) ∧ CpOk y st := by
 have := stoM_put (st := st) h (v := st.t s)
 rw [put'_self] at this
 exact this
theorem stepG_m {all : List Op} {x y : Op} {s : Nat} (h : RM x y s) (st : St) : stepG cf io all st y = if stoM st y.av y.d y.o = true then stepW cf io y.d st y.o else none := by
 simp only [stepG,h.yg,guardOf,step,chkW,h.yw,h.yq,h.ya,Bool.not_false,Bool.and_self,if_true]
theorem rm_read {x y : Op} {s : Nat} (h : RM x y s) (hc : stoM st y.av y.d y.o = true) {st1 : St} (h1 : stepW cf io y.d st y.o = some st1) :
 evalV cf io x.d st x.o = evalV cf io x.d st1 x.o ∧ (∀ v,okV st x.o v = okV st1 x.o v) ∧ ∀ v,thereV st v = thereV st1 v → readOk st x v = readOk st1 x v := by
 have same : ∀ k ∈ y.av,k ∉ uses y.o → y.d ≠ some k → k < gs → st.t k = st1.t k := fun k hk hu hd hg => (rm_slot h hc (stoM_av h hc hk hg) hg hu hd h1).symm
 have us : ∀ k ∈ uses x.o,st.t k = st1.t k := fun k hk => by
  obtain ⟨a,b,c,d⟩ := h.us k hk
  exact same k a b c d
 have fl : ∀ i ∈ uses x.o ++ flagU x,st.t i = st1.t i := fun i hi => by
  rcases List.mem_append.1 hi with hi | hi
  ·exact us i hi
  ·simp only [flagU] at hi
   split at hi
   ·rename_i hg
    rw [h.xd,List.mem_singleton] at hi
    subst hi
    exact same _ (h.xs.1 (by simpa using hg)) h.su h.sd h.sg
   ·cases hi
 by_cases hs : slotR x.o = true
 ·have ok : ∀ v,okV st x.o v = okV st1 x.o v := fun v => by
   unfold okV
   congr 1
   cases ho : x.o <;> rw [ho] at hs <;> first
    | (simp [slotR] at hs; done)
    | (cases v <;> rfl)
    | (rename_i w; cases w <;> cases v <;> rfl)
  exact ⟨slotR_congr hs us,ok,fun v ht => readOk_congr' (fun _ => ok v) (fun _ => ht) fl⟩
 ·have hs' : slotR x.o = false := by simpa using hs
  by_cases hl : isSlc x.o = true
  ·have ok : ∀ v,okV st x.o v = okV st1 x.o v := fun v => by
    unfold okV
    congr 1
    cases ho : x.o <;> rw [ho] at hl <;> first
     | (simp [isSlc] at hl; done)
     | (cases v <;> rfl)
   have hn : simple x.o = false := by cases ho : x.o <;> rw [ho] at hl <;> first | rfl | (simp [isSlc] at hl; done)
   obtain ⟨n,a',u,e,ed,_⟩ : ∃ n a' u,y.o = .sto n a' u ∧ y.d = none ∧ True := by
    rcases h.ko with ⟨n,a',u,e,ed,hh⟩ | ⟨f,args,e,hh,_⟩ | ⟨z,b,t,u,e,_,hh,_⟩
    ·exact ⟨n,a',u,e,ed,trivial⟩
    ·rw [hn] at hh; cases hh
    ·rw [hn] at hh; cases hh
   refine ⟨slc_congr hl us ?_,ok,fun v ht => readOk_congr' (fun _ => ok v) (fun _ => ht) fl⟩
   rw [e,ed] at h1
   cases hf : stoP st (.sto n a' u) with
   | true => exact .inl (sto_flat_z hf h1)
   | false =>
     refine .inr fun k hk p i c hv => ?_
     have := stoM_av h hc (h.us k hk).1 (h.us k hk).2.2.2
     simp only [okA,e,hf,Bool.false_eq_true,false_or,hv,staysM,pure,pureC] at this
  have sm : simple x.o = true := by
   rcases h.ko with ⟨n,a',u,e,_,hh⟩ | ⟨f,args,e,hh,_⟩ | ⟨z,b,t,u,e,_,hh,_⟩
   ·exact hh.elim (fun h' => absurd h'.1 hs) fun h' => absurd h' hl
   ·exact hh
   ·exact hh
  have rt : ∀ k ∈ uses x.o,st.t k = st1.t k ∧ ∀ p i c,(st.t k = .loc p i c ∨ st.t k = .view p i c) → st.r p = st1.r p := fun k hk => by
   obtain ⟨a,b,c,d⟩ := h.us k hk
   exact ⟨us k hk,fun p i c' hp => ((rm_put h hc (stoM_av h hc a d) d b c).2.1 sm hs' st1 h1 p i c' hp).symm⟩
  exact ⟨simple_congr sm rt,fun v => okV_congr rt,fun v ht => readOk_congr' (fun _ => okV_congr rt) (fun _ => ht) fl⟩
theorem readOk_parts {x : Op} {v : A} (hr : readOk st x v = true) : (!x.pq || pure v) = true ∧ (gs ∈ x.av → ∀ s,x.d = some s → st.t s = .any) ∧ (gs + 1 ∈ x.av → okV st x.o v = true) ∧ (gs + 2 ∈ x.av → thereV st v = true) := by
 simp only [readOk,Bool.and_eq_true,List.all_eq_true] at hr
 refine ⟨hr.1,fun hg s hs => ?_,fun hg => ?_,fun hg => ?_⟩
 ·have := hr.2 gs hg
  rw [if_pos rfl,hs] at this
  exact isAny_is this
 ·have := hr.2 (gs + 1) hg
  rwa [if_neg (by unfold gs; omega),if_pos rfl] at this
 ·have := hr.2 (gs + 2) hg
  rwa [if_neg (by unfold gs; omega),if_neg (by omega),if_pos rfl] at this
theorem stepG_comm11 {all : List Op} {x y : Op} {s : Nat} (h : RM x y s) {st s1 s2 : St} (h1 : stepG cf io all st x = some s1) (h2 : stepG cf io all s1 y = some s2) : ∃ t1,stepG cf io all st y = some t1 ∧ stepG cf io all t1 x = some s2 := by
 rw [stepG_r' h.xw h.xg,h.xd] at h1
 obtain ⟨v,hv,h1⟩ := Option.bind_eq_some_iff.1 h1
 split at h1
 ·rename_i hr
  cases h1
  obtain ⟨p1,p2,p3,p4⟩ := readOk_parts hr
  rw [stepG_m h] at h2
  split at h2
  ·rename_i hc
   have hc' := (stoM_put h).1 hc
   have hc0 : stoM st y.av y.d y.o = true := (stoM_iff h).2 ⟨⟨by rw [← stoM_nil h]; exact hc'.1.1,fun k hk hg => by
    by_cases e : k = s
    ·subst e; rw [p2 (h.xs.2 hk) _ h.xd]; exact okA_any h
    ·have := hc'.1.2 k hk hg; rwa [put'_ne e] at this⟩,(CpOk_put h).1 hc'.2⟩
   have hv' : evalV cf io x.d st x.o = some v := by rw [h.xd]; exact hv
   have hok : okA y st v := rm_val h (fun k hk => stoM_av h hc0 (h.us k hk).1 (h.us k hk).2.2.2) hv' p1 p3 fun ⟨z,b,t,u,e⟩ => .inl (by
    have hgs : gs ∈ x.av := by
     rcases h.ko with ⟨_,_,_,e',_⟩ | ⟨_,_,e',_⟩ | ⟨_,_,_,_,_,_,_,hh,_⟩
     ·rw [e] at e'; cases e'
     ·rw [e] at e'; cases e'
     ·exact hh
    have := hc'.1.2 s (h.xs.1 hgs) h.sg
    simpa [St.put,St.put'] using this)
   have h2 : stepW cf io y.d (st.put' s v) y.o = some s2 := h2
   have hp := rm_put (cf := cf) (io := io) h hc0 hok h.sg h.su h.sd
   rw [hp.1] at h2
   obtain ⟨t1,e1,e2⟩ := Option.map_eq_some_iff.1 h2
   obtain ⟨r1,r2,r3⟩ := rm_read (cf := cf) (io := io) h hc0 e1
   refine ⟨t1,by rw [stepG_m h,if_pos hc0,e1],?_⟩
   rw [stepG_r' h.xw h.xg,← r1,hv',Option.bind_some,← r3 v (hp.2.2 t1 e1),if_pos hr,h.xd]
   exact congrArg some e2
  ·cases h2
 ·cases h1
theorem stepG_comm12 {all : List Op} {x y : Op} {s : Nat} (h : RM y x s) {st s1 s2 : St} (h1 : stepG cf io all st x = some s1) (h2 : stepG cf io all s1 y = some s2) : ∃ t1,stepG cf io all st y = some t1 ∧ stepG cf io all t1 x = some s2 := by
 rw [stepG_m h] at h1
 split at h1
 ·rename_i hc0
  obtain ⟨r1,r2,r3⟩ := rm_read (cf := cf) (io := io) h hc0 h1
  rw [stepG_r' h.xw h.xg,← r1] at h2
  obtain ⟨v,hv,h2⟩ := Option.bind_eq_some_iff.1 h2
  split at h2
  ·rename_i hr
   obtain ⟨p1,p2,p3,p4⟩ := readOk_parts hr
   have hok : okA x st v := rm_val h (fun k hk => stoM_av h hc0 (h.us k hk).1 (h.us k hk).2.2.2) hv p1 (fun hg => by rw [r2]; exact p3 hg) fun ⟨z,b,t,u,e⟩ => .inr ⟨s1,h1,p4 (by
    rcases h.ko with ⟨_,_,_,e',_⟩ | ⟨_,_,e',_⟩ | ⟨_,_,_,_,_,_,_,_,_,hh⟩
    ·rw [e] at e'; cases e'
    ·rw [e] at e'; cases e'
    ·exact hh)⟩
   have hp := rm_put (cf := cf) (io := io) h hc0 hok h.sg h.su h.sd
   rw [← r3 v (hp.2.2 s1 h1)] at hr
   refine ⟨st.put' s v,?_,?_⟩
   ·rw [stepG_r' h.xw h.xg,hv,Option.bind_some,if_pos hr,h.xd]; rfl
   ·have hi := (stoM_iff h).1 hc0
    have hc : stoM (st.put' s v) x.av x.d x.o = true := (stoM_put h).2 ⟨⟨by rw [stoM_nil h]; exact hi.1.1,fun k hk hg => by
     by_cases e : k = s
     ·subst e; simp only [St.put',if_true]; exact hok
     ·rw [put'_ne e]; exact hi.1.2 k hk hg⟩,(CpOk_put h).2 hi.2⟩
    rw [stepG_m h,if_pos hc,hp.1,h1,Option.map_some,← h2,h.xd]
    rfl
  ·cases h2
 ·cases h1
structure RC (x y : Op) (s k : Nat) : Prop where
 yq : y.pq = true
 xq : x.pq = false
 xw : x.w = false
 yw : y.w = true
 xg : x.g = none
 yg : y.g = none
 ya : y.av.isEmpty = false
 yo : ∃ f args,y.o = .call f args
 xo : x.o = .mv (.t k)
 kc : cp + k ∈ y.av
 ku : k ∉ uses y.o
 kd : y.d ≠ some k
 kg : k < gs
 xd : x.d = some s
 sg : s < gs
 su : s ∉ uses y.o
 sd : y.d ≠ some s
 sk : s ≠ k
 sn : s ∉ y.av
 xa : ∀ d ∈ x.av,d = gs ∨ d = gs + 1
 xs : gs ∈ x.av ↔ cp + s ∈ y.av
theorem apartC_is {x y : Op} (h : apartC x y = true) : ∃ s k,RC x y s k := by
 simp only [apartC,Bool.and_eq_true,Bool.not_eq_true',Option.isNone_iff_eq_none] at h
 obtain ⟨h1,h2,h3,h4,h5,h6,h7,h8,h9,h10⟩ := h
 cases hd : x.d with
 | none => rw [hd] at h10; cases h10
 | some s =>
   rw [hd] at h10
   split at h9
   ·rename_i k ho
    simp only [ho,uses,opdU,Bool.and_eq_true,Bool.not_eq_true',List.contains_eq_mem,List.mem_singleton,decide_eq_true_eq,decide_eq_false_iff_not,bne_iff_ne,ne_eq,List.all_eq_true,Bool.or_eq_true,beq_iff_eq,decide_eq_decide] at h9 h10
    obtain ⟨a1,a2,a3,a4,a5,a6,a7⟩ := h10
    obtain ⟨b1,b2,b3,b4⟩ := h9
    refine ⟨s,k,h1,h2,h3,h4,h5,h6,h7,?_,ho,b1,b2,b3,b4,hd,a1,a2,a3,a4,a5,a6,a7⟩
    cases hy : y.o <;> rw [hy] at h8 <;> first
     | exact ⟨_,_,rfl⟩
     | cases h8
   ·cases h9
theorem rc_put {x y : Op} {s k : Nat} (h : RC x y s k) (hc : stoM st y.av y.d y.o = true) {v : A} (hv : staysP y.d v = true) {j : Nat} (hj : j < gs) (hu : j ∉ uses y.o) (hd : y.d ≠ some j) :
 stepW cf io y.d (st.put' j v) y.o = (stepW cf io y.d st y.o).map (·.put' j v) := by
 obtain ⟨f,args,e⟩ := h.yo
 rw [e] at hc hu ⊢
 simp only [stoM,Bool.and_eq_true] at hc
 have hn := hc.1
 simp only [callN,Bool.and_eq_true,List.all_eq_true] at hn
 have hf : f.v (st.put' j v) = f.v st := opdU_v fun i hi => put'_ne (fun e => hu (by simp [uses,← e,hi]))
 have ha : args.map (Opd.v (st.put' j v)) = args.map (Opd.v st) := listU_v fun i hi => put'_ne (fun e => hu (by simp only [uses]; exact List.mem_append_right _ (e ▸ hi)))
 have hnc : ∀ g caps,f.v st = .fn g caps → ∀ a ∈ caps,noView a = true := fun g caps e a hm => by
  have := hn.2
  rw [e] at this
  exact List.all_eq_true.1 this a hm
 have none_ : Fix none v → stepW cf io y.d (st.put' j v) (.call f args) = (stepW cf io y.d st (.call f args)).map (·.put' j v) := fun hf0 =>
  callN_put hf0 hj (fun p hp => by cases hp) hf ha hd hn.1 hnc (fun i hi p hp => by cases hp)
 unfold staysP at hv
 split at hv
 ·rename_i p i c
  simp only [Bool.and_eq_true,decide_eq_true_eq,bne_iff_ne,ne_eq] at hv
  exact callN_put (q := some p) (.inr ⟨p,i,c,rfl,.inl rfl⟩) hj (fun p' hp => by cases hp; exact hv.1) hf ha hd hn.1 hnc (fun i' hi' p' hp => by cases hp; intro e; exact hv.2 (by rw [hi',e]))
 ·exact none_ (.inl (.inr rfl))
 ·exact none_ (.inl (.inl hv))
theorem rc_slot {x y : Op} {s k : Nat} (h : RC x y s k) (hc : stoM st y.av y.d y.o = true) {j : Nat} (hv : staysP y.d (st.t j) = true) (hj : j < gs) (hu : j ∉ uses y.o) (hd : y.d ≠ some j) {st1 : St} (h1 : stepW cf io y.d st y.o = some st1) : st1.t j = st.t j := by
 have hp := rc_put (cf := cf) (io := io) h hc hv hj hu hd
 rw [put'_self,h1] at hp
 simp only [Option.map_some,Option.some.injEq] at hp
 rw [hp]; simp [St.put']
theorem rc_E {x y : Op} {s k : Nat} (h : RC x y s k) (hc : stoM st y.av y.d y.o = true) {j : Nat} (hj : cp + j ∈ y.av) : staysP y.d (st.t j) = true := by
 obtain ⟨f,args,e⟩ := h.yo
 rw [e] at hc
 simp only [stoM,Bool.or_eq_true,Bool.and_eq_true,List.all_eq_true,decide_eq_true_eq] at hc
 have := (hc.2.2 _ hj).resolve_left (by omega)
 rwa [Nat.add_sub_cancel_left] at this
theorem stoM_c {x y : Op} {s k : Nat} (h : RC x y s k) {v : A} (hv : cp + s ∈ y.av → (staysP y.d v = true ↔ staysP y.d (st.t s) = true)) : stoM (st.put' s v) y.av y.d y.o = true ↔ stoM st y.av y.d y.o = true := by
 obtain ⟨f,args,e⟩ := h.yo
 have hsu := h.su
 rw [e] at hsu ⊢
 have hf : f.v (st.put' s v) = f.v st := opdU_v fun i hi => put'_ne (fun e => hsu (by simp [uses,← e,hi]))
 have ha : args.map (Opd.v (st.put' s v)) = args.map (Opd.v st) := listU_v fun i hi => put'_ne (fun e => hsu (by simp only [uses]; exact List.mem_append_right _ (e ▸ hi)))
 have hN : callN (st.put' s v) (.call f args) = callN st (.call f args) := by simp only [callN,hf,ha]
 have ht : touch (st.put' s v) (.call f args) = touch st (.call f args) := touch_put' hsu
 have hfr : ∀ p,freeAt (st.put' s v) (.call f args) y.d p = freeAt st (.call f args) y.d p := fun p => by simp only [freeAt,ht]
 have hro : ∀ p,rootOk (st.put' s v) (.call f args) y.d p = rootOk st (.call f args) y.d p := fun p => by simp only [rootOk,hfr,put'_r]
 have hL : ∀ a,staysL (st.put' s v) (.call f args) y.d a = staysL st (.call f args) y.d a := fun a => by cases a <;> simp only [staysL,hro]
 simp only [stoM,hN,hL,Bool.or_eq_true,Bool.and_eq_true,List.all_eq_true,decide_eq_true_eq]
 refine and_congr Iff.rfl (and_congr ?_ ?_)
 ·refine forall_congr' fun j => forall_congr' fun hj => ?_
  rw [put'_ne (show j ≠ s from fun e => h.sn (e ▸ hj))]
 ·refine forall_congr' fun j => forall_congr' fun hj => ?_
  by_cases hjc : j < cp
  ·simp only [hjc,true_or]
  ·by_cases hjs : j = cp + s
   ·subst hjs
    have e1 : (st.put' s v).t s = v := by simp [St.put']
    rw [Nat.add_sub_cancel_left,e1]
    exact or_congr Iff.rfl (hv hj)
   ·rw [put'_ne (show j - cp ≠ s from fun e => hjs (by omega))]
theorem stepG_c {all : List Op} {x y : Op} {s k : Nat} (h : RC x y s k) (st : St) : stepG cf io all st y = if stoM st y.av y.d y.o = true then stepW cf io y.d st y.o else none := by
 simp only [stepG,h.yg,guardOf,step,chkW,h.yw,h.yq,h.ya,Bool.not_false,Bool.and_self,if_true]
theorem stepG_cx {all : List Op} {x y : Op} {s k : Nat} (h : RC x y s k) (st : St) : stepG cf io all st x = if readOk st x (st.t k) = true then some (st.put' s (st.t k)) else none := by
 rw [stepG_r' h.xw h.xg,h.xo,h.xd]; rfl
theorem rc_ok {x y : Op} {s k : Nat} (h : RC x y s k) {v : A} (hs : gs ∈ x.av → st.t s = st'.t s) (hk : st.t k = st'.t k) : readOk st x v = readOk st' x v := by
 refine readOk_congr' (fun _ => ?_) (fun hg => ?_) fun i hi => ?_
 ·rw [h.xo]; cases v <;> rfl
 ·rcases h.xa _ hg with e | e <;> omega
 ·rcases List.mem_append.1 hi with hi | hi
  ·rw [h.xo] at hi; simp [uses,opdU] at hi; rw [hi]; exact hk
  ·simp only [flagU] at hi
   split at hi
   ·rename_i hg
    rw [h.xd,List.mem_singleton] at hi
    rw [hi]; exact hs (by simpa using hg)
   ·cases hi
theorem stepG_comm13 {all : List Op} {x y : Op} {s k : Nat} (h : RC x y s k) {st s1 s2 : St} (h1 : stepG cf io all st x = some s1) (h2 : stepG cf io all s1 y = some s2) : ∃ t1,stepG cf io all st y = some t1 ∧ stepG cf io all t1 x = some s2 := by
 rw [stepG_cx h] at h1
 split at h1
 ·rename_i hr
  cases h1
  have hany : gs ∈ x.av → st.t s = .any := fun hg => (readOk_parts hr).2.1 hg s h.xd
  rw [stepG_c h] at h2
  split at h2
  ·rename_i hc
   have hkE : staysP y.d (st.t k) = true := by
    have := rc_E h hc h.kc
    rwa [put'_ne (Ne.symm h.sk)] at this
   have hc0 : stoM st y.av y.d y.o = true := (stoM_c h fun hm => by rw [hany (h.xs.2 hm)]; exact ⟨fun _ => rfl,fun _ => hkE⟩).1 hc
   rw [rc_put h hc0 hkE h.sg h.su h.sd] at h2
   obtain ⟨t1,e1,e2⟩ := Option.map_eq_some_iff.1 h2
   have hk := rc_slot h hc0 hkE h.kg h.ku h.kd e1
   have hs : gs ∈ x.av → st.t s = t1.t s := fun hg => (rc_slot h hc0 (by rw [hany hg]; rfl) h.sg h.su h.sd e1).symm
   refine ⟨t1,by rw [stepG_c h,if_pos hc0,e1],?_⟩
   rw [stepG_cx h,hk,← rc_ok h hs hk.symm,if_pos hr]
   exact congrArg some e2
  ·cases h2
 ·cases h1
theorem stepG_comm14 {all : List Op} {x y : Op} {s k : Nat} (h : RC y x s k) {st s1 s2 : St} (h1 : stepG cf io all st x = some s1) (h2 : stepG cf io all s1 y = some s2) : ∃ t1,stepG cf io all st y = some t1 ∧ stepG cf io all t1 x = some s2 := by
 rw [stepG_c h] at h1
 split at h1
 ·rename_i hc0
  have hkE := rc_E h hc0 h.kc
  have hk := rc_slot h hc0 hkE h.kg h.ku h.kd h1
  have hs : gs ∈ y.av → st.t s = s1.t s := fun hg => (rc_slot h hc0 (rc_E h hc0 (h.xs.1 hg)) h.sg h.su h.sd h1).symm
  rw [stepG_cx h,hk] at h2
  split at h2
  ·rename_i hr
   rw [← rc_ok h hs hk.symm] at hr
   have hany : gs ∈ y.av → st.t s = .any := fun hg => (readOk_parts hr).2.1 hg s h.xd
   refine ⟨st.put' s (st.t k),by rw [stepG_cx h,if_pos hr],?_⟩
   have hc : stoM (st.put' s (st.t k)) x.av x.d x.o = true := (stoM_c h fun hm => by rw [hany (h.xs.2 hm)]; exact ⟨fun _ => rfl,fun _ => hkE⟩).2 hc0
   rw [stepG_c h,if_pos hc,rc_put h hc0 hkE h.sg h.su h.sd,h1,Option.map_some,← h2]
  ·cases h2
 ·cases h1
theorem stepG_comm {all : List Op} {x y : Op} (h : apartOps all x y = true) {st s1 s2 : St} (h1 : stepG cf io all st x = some s1) (h2 : stepG cf io all s1 y = some s2) :
 ∃ t1,stepG cf io all st y = some t1 ∧ stepG cf io all t1 x = some s2 := by
 simp only [apartOps,Bool.or_eq_true] at h
 rcases h with h | (h | h) | (h | h) | (h | h) | (h | h) | (h | h) | (h | h) | h | h
 ·exact stepG_commV h h1 h2
 ·obtain ⟨s,k,h⟩ := apartC_is h; exact stepG_comm13 h h1 h2
 ·obtain ⟨s,k,h⟩ := apartC_is h; exact stepG_comm14 h h1 h2
 ·obtain ⟨s,h⟩ := apartM_is h; exact stepG_comm11 h h1 h2
 ·obtain ⟨s,h⟩ := apartM_is h; exact stepG_comm12 h h1 h2
 ·exact stepG_comm1 (apartW_is h) h1 h2
 ·exact stepG_comm2 (apartW_is h) h1 h2
 ·obtain ⟨d,h⟩ := apartA_is h; exact stepG_comm3 h h1 h2
 ·obtain ⟨d,h⟩ := apartA_is h; exact stepG_comm4 h h1 h2
 ·obtain ⟨s,h⟩ := apartB_is h; exact stepG_comm5 h h1 h2
 ·obtain ⟨s,h⟩ := apartB_is h; exact stepG_comm6 h h1 h2
 ·obtain ⟨hq,s,h⟩ := apartP_is h; exact stepG_comm7 h hq h1 h2
 ·obtain ⟨hq,s,h⟩ := apartP_is h; exact stepG_comm8 h hq h1 h2
 ·obtain ⟨hq,d,u,h⟩ := apartQ_is h; exact stepG_comm9 h hq h1 h2
 ·obtain ⟨hq,d,u,h⟩ := apartQ_is h; exact stepG_comm10 h hq h1 h2
def stepI (cf : CF) (io : Nat → List Bool) (all : List Op) (st : St) (i : Nat) : Option St :=
 match all[i]? with
 | some x => stepG cf io all st x
 | none => some st
def runI (cf : CF) (io : Nat → List Bool) (all : List Op) : List Nat → St → Option St
 | [],st => some st
 | i :: l,st => (stepI cf io all st i).bind (runI cf io all l)
theorem runOps_runI (all : List Op) : ∀ (l pre : List Op) (st : St),all = pre ++ l → runOps cf io all l st = runI cf io all (List.range' pre.length l.length) st
 | [],pre,st,_ => by simp [runOps,runI]
 | o :: l,pre,st,he => by
   rw [runOps_cons,List.length_cons,List.range'_succ,runI]
   have hi : all[pre.length]? = some o := by rw [he]; simp
   simp only [stepI,hi]
   cases hs : stepG cf io all st o with
   | none => rfl
   | some s =>
     have := runOps_runI all l (pre ++ [o]) s (by rw [he]; simp)
     simpa using this
theorem stepI_comm {all : List Op} {i j : Nat} (h : ∀ x y,all[j]? = some x → all[i]? = some y → apartOps all x y = true) {st s1 s2 : St} (h1 : stepI cf io all st j = some s1) (h2 : stepI cf io all s1 i = some s2) :
 ∃ t1,stepI cf io all st i = some t1 ∧ stepI cf io all t1 j = some s2 := by
 unfold stepI at *
 cases hj : all[j]? with
 | none =>
   simp only [hj,Option.some.injEq] at h1 ⊢; subst h1
   exact ⟨s2,h2,rfl⟩
 | some x =>
   simp only [hj] at h1 ⊢
   cases hi : all[i]? with
   | none =>
     simp only [hi,Option.some.injEq] at h2 ⊢; subst h2
     exact ⟨st,rfl,h1⟩
   | some y =>
     simp only [hi] at h2 ⊢
     exact stepG_comm (h x y hj hi) h1 h2
theorem runI_first {all : List Op} {i : Nat} {post : List Nat} {stf : St} : ∀ {pre : List Nat} {st : St},(∀ j ∈ pre,∀ x y,all[j]? = some x → all[i]? = some y → apartOps all x y = true) → runI cf io all (pre ++ i :: post) st = some stf →
 ∃ s1,stepI cf io all st i = some s1 ∧ runI cf io all (pre ++ post) s1 = some stf
 | [],st,_,h => by
   simp only [List.nil_append,runI] at h ⊢
   exact Option.bind_eq_some_iff.1 h
 | j :: pre,st,ha,h => by
   simp only [List.cons_append,runI] at h
   obtain ⟨sj,hj,h⟩ := Option.bind_eq_some_iff.1 h
   obtain ⟨s1,h1,h2⟩ := runI_first (fun k hk => ha k (List.mem_cons_of_mem _ hk)) h
   obtain ⟨t1,h3,h4⟩ := stepI_comm (ha j (List.mem_cons_self ..)) hj h1
   exact ⟨t1,h3,by simp only [List.cons_append,runI,h4,Option.bind_some]; exact h2⟩
end
section
variable {P : Program} {φ : Nat → Nat} {w0 : World} {L : Lent} {E E' : Env} {st st' : St} {w w' : World} {a : Act} {cf : CF} {io : Nat → List Bool}
def chkOp (P : Program) (φ : Nat → Nat) (n : Nat) (lp : List Bool) (o : Oper) (x : Op) : Bool :=
 o.dst == x.d && o.guard == x.g && chkO P φ o.op x.o && (match o.dst with | some d => decide (d < n) && !((lp[d]?).getD false) | none => true)
def chkOps (P : Program) (φ : Nat → Nat) (n : Nat) (lp : List Bool) : List Oper → List Op → Bool
 | [],[] => true
 | o :: os,x :: xs => chkOp P φ n lp o x && chkOps P φ n lp os xs
 | _,_ => false
theorem chkOps_len {n : Nat} {lp : List Bool} : ∀ {os : List Oper} {xs : List Op},chkOps P φ n lp os xs = true → os.length = xs.length
 | [],[],_ => rfl
 | o :: os,x :: xs,h => by simp only [chkOps,Bool.and_eq_true] at h; simp [chkOps_len h.2]
 | [],_ :: _,h => by simp [chkOps] at h
 | _ :: _,[],h => by simp [chkOps] at h
theorem chkOps_at {n : Nat} {lp : List Bool} : ∀ {os : List Oper} {xs : List Op},chkOps P φ n lp os xs = true → ∀ {i : Nat} {o : Oper},os[i]? = some o → ∃ x,xs[i]? = some x ∧ chkOp P φ n lp o x = true
 | [],[],_,i,o,h => by simp at h
 | o :: os,x :: xs,h,0,o',hi => by
   simp only [chkOps,Bool.and_eq_true] at h
   simp at hi; subst hi
   exact ⟨x,rfl,h.1⟩
 | o :: os,x :: xs,h,i + 1,o',hi => by
   simp only [chkOps,Bool.and_eq_true] at h
   obtain ⟨y,hy,hc⟩ := chkOps_at h.2 (i := i) (by simpa using hi)
   exact ⟨y,by simpa using hy,hc⟩
 | [],_ :: _,h,_,_,_ => by simp [chkOps] at h
 | _ :: _,[],h,_,_,_ => by simp [chkOps] at h
theorem guard_ok {n : Nat} {lp : List Bool} {ops : Array Oper} {all : List Op} (hops : chkOps P φ n lp ops.toList all = true) (h : Sim φ w0 L E st a w) {o : Oper} {b : Bool} (hg : guardOf all st o.guard = some b) : Region.wanted o (yielded ops a.tmps) = b := by
 unfold guardOf at hg
 unfold Region.wanted
 split at hg
 ·rename_i hgn
  rw [hgn]; simpa using hg
 ·rename_i j want hgs
  rw [hgs]
  simp only
  split at hg
  ·rename_i d hd
   have hdst : (ops[j]?).bind (·.dst) = some d := by
    obtain ⟨x,hx,hxd⟩ := Option.bind_eq_some_iff.1 hd
    have hl := chkOps_len hops
    have hj : j < ops.toList.length := by
     rw [hl]
     rcases Nat.lt_or_ge j all.length with h' | h'
     ·exact h'
     ·simp [List.getElem?_eq_none h'] at hx
    obtain ⟨y,hy,hc⟩ := chkOps_at hops (i := j) (o := ops.toList[j]) (by simp)
    rw [hx] at hy; cases hy
    simp only [chkOp,Bool.and_eq_true,beq_iff_eq] at hc
    have : ops[j]? = some ops.toList[j] := by
     rw [← Array.getElem?_toList]; simp
    rw [this]
    simp only [Option.bind_some]
    rw [hc.1.1.1]; exact hxd
   have hs := h.slots d
   unfold yielded
   rw [hdst]
   simp only [Option.bind_some]
   split at hg
   ·rename_i c hc
    rw [hc] at hs
    have hv := hs.bool_inv
    simp only [Act.eval] at hv
    simp only [Option.some.injEq] at hg
    have : a.tmps[d]? = some (.bool c) := by
     rw [Array.getD_eq_getD_getElem?] at hv
     cases ht : a.tmps[d]? with
     | none => rw [ht] at hv; simp [undef] at hv
     | some u => rw [ht] at hv; simp at hv; rw [hv]
    rw [this]
    simp only
    rw [← hg]
    cases c <;> cases want <;> rfl
   ·rename_i hc
    rw [hc] at hs
    have hv := hs.undef_inv
    simp only [Act.eval] at hv
    simp only [Option.some.injEq] at hg
    rw [← hg]
    cases ht : a.tmps[d]? with
    | none => rfl
    | some u =>
      rw [Array.getD_eq_getD_getElem?,ht] at hv
      simp at hv
      subst hv
      rfl
   ·cases hg
  ·cases hg
theorem noTk_undef {v : Value} (k b : Nat) : ¬ Tk v .undef k b := by
 intro h; cases h with
 | one _ _ _ _ h => cases h
theorem put_size (a : Act) (d : Option Tmp) (v : Value) : (a.put d v).tmps.size = a.tmps.size := by cases d <;> simp [Act.put]
theorem op_sound (hcf : CfG P φ w0 L cf) {lp : List Bool} (hlp : ∀ i p,L.pl i = some p → (lp[i]?).getD false = true) {n : Nat} {ops : Array Oper} {all : List Op} (hops : chkOps P φ n lp ops.toList all = true) (h : Sim φ w0 L E st a w) (hn : a.tmps.size = n) {i : Nat} {st1 : St} (hs : stepI cf io all st i = some st1)
 {K : Act → World → Prop} {Q : Exit → Act → World → Prop} (hK : ∀ E' a' w',Sim φ w0 L E' st1 a' w' → a'.tmps.size = n → K a' w') : wpOp P ops Q i K a w := by
 unfold wpOp
 cases ho : ops[i]? with
 | none =>
   have hl := chkOps_len hops
   have : all[i]? = none := by
    rw [List.getElem?_eq_none_iff,← hl]
    simpa using ho
   simp only [stepI,this,Option.some.injEq] at hs
   subst hs
   exact hK E a w h hn
 | some o =>
   obtain ⟨x,hx,hc⟩ := chkOps_at hops (i := i) (o := o) (by rw [Array.getElem?_toList]; exact ho)
   simp only [stepI,hx] at hs
   simp only [chkOp,Bool.and_eq_true,beq_iff_eq] at hc
   obtain ⟨⟨⟨hd,hg⟩,hco⟩,hdn⟩ := hc
   have hdn' : ∀ j,o.dst = some j → j < a.tmps.size := fun j hj => by rw [hj] at hdn; rw [hn]; simp at hdn; exact hdn.1
   have hdl : ∀ j,o.dst = some j → L.pl j = none := fun j hj => by
    rw [hj] at hdn
    cases hpl : L.pl j with
    | none => rfl
    | some p => have := hlp j p hpl; simp [this] at hdn
   simp only
   unfold stepG at hs
   rw [← hg] at hs
   split at hs
   ·rename_i hgt
    rw [guard_ok hops h hgt]
    simp only [if_true]
    refine .inl ?_
    unfold step at hs
    split at hs
    ·split at hs
     ·rw [← hd] at hs
      exact stepW_sound hcf h hco hdn' hdl hs fun E' v w' hS => hK E' _ w' hS ((put_size a o.dst v).trans hn)
     ·cases hs
    ·obtain ⟨r,hr,hs⟩ := Option.bind_eq_some_iff.1 hs
     split at hs
     rotate_left
     ·cases hs
     cases hs
     rw [← hd] at hr hK
     exact evalV_sound hcf h hco hdn' hr fun E' v w' hS => hK E' _ w' hS ((put_size a o.dst v).trans hn)
   ·rename_i hgf
    simp only [Option.some.injEq] at hs; subst hs
    rw [guard_ok hops h hgf]
    simp only [Bool.false_eq_true,if_false]
    rw [← hd] at hK
    exact hK E _ w (h.put' hdn' (.one _ _ .undef) ((Copy.scalar noTk_undef).tok h)) ((put_size a o.dst undef).trans hn)
   ·cases hs
theorem seq_sound (hcf : CfG P φ w0 L cf) {lp : List Bool} (hlp : ∀ i p,L.pl i = some p → (lp[i]?).getD false = true) {n : Nat} {ops : Array Oper} {all : List Op} (hops : chkOps P φ n lp ops.toList all = true) {Q : Exit → Act → World → Prop} {stf : St} (hQ : ∀ E' a' w',Sim φ w0 L E' stf a' w' → a'.tmps.size = n → Q .normal a' w') :
 ∀ {l : List Nat} {E : Env} {st : St} {a : Act} {w : World},Sim φ w0 L E st a w → a.tmps.size = n → runI cf io all l st = some stf → wpOps P ops Q l a w
 | [],E,st,a,w,h,hn,hs => by
   simp [runI] at hs; subst hs
   exact hQ E a w h hn
 | i :: l,E,st,a,w,h,hn,hs => by
   rw [wpOps_cons]
   simp only [runI] at hs
   obtain ⟨s,h1,h2⟩ := Option.bind_eq_some_iff.1 hs
   exact op_sound hcf hlp hops h hn h1 fun E' a' w' hS hn' => seq_sound hcf hlp hops hQ hS hn' h2
def depsOf (o : Oper) : List Nat := (o.after.toList.filter (Region.binds .any)).map (·.on)
def closure : List (List Nat) → List (List Nat) → List (List Nat)
 | [],acc => acc
 | ds :: l,acc => closure l (acc ++ [(ds ++ ds.flatMap fun k => (acc[k]?).getD []).eraseDups])
def chkTab (deps tab : List (List Nat)) : Bool :=
 (List.range tab.length).all fun i => ((tab[i]?).getD []).all fun j => ((deps[i]?).getD []).any fun k => k == j || (decide (k < i) && ((tab[k]?).getD []).contains j)
def chkPairs (all : List Op) (tab : List (List Nat)) : Bool :=
 (List.range all.length).all fun i => (List.range i).all fun j => ((tab[i]?).getD []).contains j || (match all[j]?,all[i]? with | some x,some y => apartOps all x y | _,_ => true)
def chkBack (deps : List (List Nat)) : Bool := (List.range deps.length).all fun i => ((deps[i]?).getD []).all fun k => decide (k < i)
def chkDraw (ops : List Oper) (all : List Op) : Bool :=
 chkBack (ops.map depsOf) && chkTab (ops.map depsOf) (closure (ops.map depsOf) []) && chkPairs all (closure (ops.map depsOf) [])
theorem tab_ok {deps tab : List (List Nat)} (h : chkTab deps tab = true) {p : Nat → Prop} (hcl : ∀ k,p k → ∀ j ∈ (deps[k]?).getD [],p j) :
 ∀ (n i : Nat),i < n → (∀ j ∈ (deps[i]?).getD [],p j) → ∀ j ∈ (tab[i]?).getD [],p j := by
 intro n
 induction n with
 | zero => intro i hi; omega
 | succ n ih =>
   intro i hi hd j hj
   have hil : i < tab.length := by
    rcases Nat.lt_or_ge i tab.length with h' | h'
    ·exact h'
    ·simp [List.getElem?_eq_none h'] at hj
   have h1 := List.all_eq_true.1 (List.all_eq_true.1 h i (List.mem_range.2 hil)) j hj
   obtain ⟨k,hk,hc⟩ := List.any_eq_true.1 h1
   simp only [Bool.or_eq_true,beq_iff_eq,Bool.and_eq_true,decide_eq_true_eq,List.contains_eq_mem] at hc
   rcases hc with rfl | ⟨hlt,hm⟩
   ·exact hd _ hk
   ·exact ih k (by omega) (hcl k (hd k hk)) j hm
theorem ready_deps {ops : Array Oper} {listed : Array Bool} {i : Nat} (h : i ∈ Region.ready .any ops listed) : listed.getD i true = false ∧ i < ops.size ∧ ∀ j ∈ (((ops.toList.map depsOf)[i]?).getD []),listed.getD j false = true := by
 obtain ⟨h0,o,ho,hall⟩ := mem_ready.1 h
 refine ⟨h0,(Array.getElem?_eq_some_iff.1 ho).1,fun j hj => ?_⟩
 have : (ops.toList.map depsOf)[i]? = some (depsOf o) := by
  rw [List.getElem?_map,Array.getElem?_toList,ho]; rfl
 rw [this] at hj
 simp only [Option.getD_some,depsOf,List.mem_map,List.mem_filter] at hj
 obtain ⟨e,⟨he,hb⟩,rfl⟩ := hj
 exact hall e (by simpa using he) hb
theorem any_sound (hcf : CfG P φ w0 L cf) {lp : List Bool} (hlp : ∀ i p,L.pl i = some p → (lp[i]?).getD false = true) {n : Nat} {ops : Array Oper} {all : List Op} (hops : chkOps P φ n lp ops.toList all = true) (hdr : chkDraw ops.toList all = true) {Q : Exit → Act → World → Prop} {stf : St}
 (hQ : ∀ E' a' w',Sim φ w0 L E' stf a' w' → a'.tmps.size = n → Q .normal a' w') :
 ∀ (fuel : Nat) {rem : List Nat} {listed : Array Bool} {E : Env} {st : St} {a : Act} {w : World},rem.length ≤ fuel → rem.Pairwise (· < ·) → listed.size = ops.size → (∀ i,i ∈ rem ↔ i < ops.size ∧ listed.getD i true = false) →
   (∀ k,listed.getD k false = true → ∀ j ∈ (((ops.toList.map depsOf)[k]?).getD []),listed.getD j false = true) →
   Sim φ w0 L E st a w → a.tmps.size = n → runI cf io all rem st = some stf → wpAny P .any ops Q fuel listed a w := by
 simp only [chkDraw,Bool.and_eq_true] at hdr
 obtain ⟨⟨hbk,htab⟩,hpr⟩ := hdr
 have hl := chkOps_len hops
 simp only [Array.length_toList] at hl
 intro fuel
 induction fuel with
 | zero =>
   intro rem listed E st a w hlen hsorted hsz hrem hcl h hn hs
   obtain rfl : rem = [] := List.eq_nil_of_length_eq_zero (by omega)
   simp [runI] at hs; subst hs
   refine ⟨?_,hQ E a w h hn⟩
   cases hr : Region.ready .any ops listed with
   | nil => rfl
   | cons i l =>
     have := ready_deps (i := i) (listed := listed) (ops := ops) (by rw [hr]; simp)
     have := (hrem i).2 ⟨this.2.1,this.1⟩
     cases this
 | succ fuel ih =>
   intro rem listed E st a w hlen hsorted hsz hrem hcl h hn hs
   refine ⟨fun hr => ?_,fun i hi => ?_⟩
   ·
    cases rem with
    | nil => simp [runI] at hs; subst hs; exact hQ E a w h hn
    | cons i l =>
      exfalso
      have hi := (hrem i).1 (by simp)
      have : i ∈ Region.ready .any ops listed := by
       have ho : ops[i]? = some ops[i] := by simp [hi.1]
       refine mem_ready.2 ⟨hi.2,ops[i],ho,fun e he hb => ?_⟩
       have hm : e.on ∈ (((ops.toList.map depsOf)[i]?).getD []) := by
        have : (ops.toList.map depsOf)[i]? = some (depsOf ops[i]) := by rw [List.getElem?_map,Array.getElem?_toList,ho]; rfl
        rw [this]
        simp only [Option.getD_some,depsOf,List.mem_map,List.mem_filter]
        exact ⟨e,⟨by simpa using he,hb⟩,rfl⟩
       have hlt : e.on < i := by
        have h1 := List.all_eq_true.1 hbk i (List.mem_range.2 (by simp [hi.1]))
        have h2 := List.all_eq_true.1 h1 _ hm
        simpa using h2
       have hnr : e.on ∉ i :: l := by
        intro hm2
        rcases List.mem_cons.1 hm2 with h3 | h3
        ·omega
        ·have := (List.pairwise_cons.1 hsorted).1 _ h3; omega
       have h4 : ¬ (listed.getD e.on true = false) := fun h5 => hnr ((hrem e.on).2 ⟨by omega,h5⟩)
       have h5 : e.on < listed.size := by rw [hsz]; omega
       rw [Array.getD_eq_getD_getElem?] at h4 ⊢
       simp [h5] at h4 ⊢
       exact h4
      rw [hr] at this; cases this
   ·obtain ⟨hun,hisz,hdeps⟩ := ready_deps hi
    have hirem := (hrem i).2 ⟨hisz,hun⟩
    obtain ⟨pre,post,rfl⟩ := List.append_of_mem hirem
    have hprelt : ∀ j ∈ pre,j < i := fun j hj => (List.pairwise_append.1 hsorted).2.2 j hj i (by simp)
    have hap : ∀ j ∈ pre,∀ x y,all[j]? = some x → all[i]? = some y → apartOps all x y = true := by
     intro j hj x y hx hy
     have hjr := (hrem j).1 (by simp [hj])
     have h1 := List.all_eq_true.1 (List.all_eq_true.1 hpr i (List.mem_range.2 (by omega))) j (List.mem_range.2 (hprelt j hj))
     simp only [hx,hy,Bool.or_eq_true] at h1
     rcases h1 with h1 | h1
     ·exfalso
      simp only [List.contains_eq_mem,decide_eq_true_eq] at h1
      have h2 := tab_ok htab (p := fun k => listed.getD k false = true) hcl (i + 1) i (by omega) hdeps j h1
      have h3 := hjr.2
      have h5 : j < listed.size := by rw [hsz]; omega
      rw [Array.getD_eq_getD_getElem?] at h2 h3
      simp [h5] at h2 h3
      rw [h2] at h3; cases h3
     ·exact h1
    obtain ⟨s1,hs1,hs2⟩ := runI_first hap hs
    refine op_sound hcf hlp hops h hn hs1 fun E' a' w' hS hn' => ?_
    have hnd : i ∉ pre ∧ i ∉ post := by
     constructor
     ·intro hm; have := hprelt i hm; omega
     ·intro hm
      have := (List.pairwise_cons.1 (List.pairwise_append.1 hsorted).2.1).1 i hm; omega
    refine ih (rem := pre ++ post) (by simp at hlen ⊢; omega) ?_ (by simpa using hsz) (fun j => ?_) (fun k hk j hj => ?_) hS hn' hs2
    ·obtain ⟨p1,p2,p3⟩ := List.pairwise_append.1 hsorted
     exact List.pairwise_append.2 ⟨p1,(List.pairwise_cons.1 p2).2,fun x hx y hy => p3 x hx y (List.mem_cons_of_mem _ hy)⟩
    ·by_cases e : j = i
     ·subst e
      have h5 : j < listed.size := by rw [hsz]; exact hisz
      constructor
      ·intro hm
       rcases List.mem_append.1 hm with hm | hm
       ·exact absurd hm hnd.1
       ·exact absurd hm hnd.2
      ·rintro ⟨_,hm⟩
       rw [Array.getD_eq_getD_getElem?] at hm
       simp [h5] at hm
     ·rw [getD_set_ne true (Ne.symm e),← hrem j]
      simp [e]
    ·by_cases e : k = i
     ·subst e
      exact getD_set_true (hdeps j hj)
     ·rw [getD_set_ne false (Ne.symm e)] at hk
      exact getD_set_true (hcl k hk j hj)
end
end Go.Ab
namespace Go.Ab
section
variable {P : Program} {φ : Nat → Nat} {w0 : World} {L : Lent} {E E' : Env} {st st' : St} {ev : Nat → Value} {w w' : World} {a : Act} {cf : CF} {io : Nat → List Bool}
theorem fd_fz : Fd fz1 (fun _ => False) where
 tk := fun v x k b h => by
  unfold fz1 at h; split at h
  ·cases h
  ·rename_i hn; cases h; exact absurd rfl (hn _ _ _)
 na := fun x h1 h2 => by unfold fz1; split <;> first | exact ⟨h1,h2⟩ | exact ⟨(fun _ h => by cases h),(fun _ h => by cases h)⟩
 nt := fun x h => by unfold fz1; split <;> first | exact h | rfl
theorem tab_map (f : Nat → A) : ∀ (l : List Nat) (i : Nat),tab (l.map fun j => (j,f j)) i = if i ∈ l then f i else .any
 | [],i => rfl
 | j :: l,i => by
   have ih := tab_map f l i
   simp only [tab,List.map_cons,List.lookup_cons] at ih ⊢
   by_cases h : i = j
   ·subst h; simp
   ·have : (i == j) = false := by simpa using h
    simp only [this]
    rw [ih]
    simp [h]
theorem rtab_map (r : Nat → Option Root) : ∀ (l : List Nat) (i : Nat) (R : Root),rtab (l.filterMap fun j => (r j).map fun R => (j,R)) i = some R → r i = some R
 | [],i,R,h => by simp [rtab] at h
 | j :: l,i,R,h => by
   simp only [List.filterMap_cons] at h
   cases hj : r j with
   | none =>
     rw [hj] at h
     exact rtab_map r l i R h
   | some R' =>
     rw [hj] at h
     simp only [Option.map_some,rtab,List.lookup_cons] at h
     by_cases e : i = j
     ·subst e; simp at h; rw [hj,h]
     ·have : (i == j) = false := by simpa using e
      simp only [this] at h
      exact rtab_map r l i R h
theorem restrict_ok (h : SimE φ w0 L E st ev w) (keep keepR : List Nat) : ∃ E',SimE φ w0 L E' (st.restrict keep keepR) ev w := by
 have hr : ∀ q R,(st.restrict keep keepR).r q = some R → st.r q = some R := fun q R hq => rtab_map st.r keepR q R hq
 refine ⟨_,h.giveUp (N := fun _ => False) (T := fun _ => True) (ok' := fun b => E.ok b ∨ ∃ i k,Tk (ev i) (st.t i) k b) (ev' := ev) (st' := st.restrict keep keepR) (fun b hb => .inl hb) (fun b hb => ?_) (fun q R hq => ⟨hr q R hq,id⟩) (fun i => ?_) (fun i k b ht => ?_)⟩
 ·rcases hb with h1 | ⟨i,k,h1⟩
  ·exact .inl h1
  ·exact .inr (.inr ⟨i,k,trivial,h1⟩)
 ·simp only [St.restrict,tab_map fun j => fz (st.t j)]
  split
  ·refine (h.slots i).comps' fd_fz.nt fun u y hty hy => ?_
   unfold fz1
   split
   ·rename_i k z xs
    cases hy with
    | data _ _ hh => cases hh
    | tokE => exact .data _ _ (.slE _ _ _)
    | tok b o cap j z xs vs hcc h0 hz hh hv' hrm =>
      exact .data _ _ (.sl b o cap z xs vs (.inr ⟨i,_,hty _ _ (.mk ⟨b,o,none⟩ _ _ _ _ _ h0)⟩) hz hcc (hh.mono (fun _ _ => rfl) (fun b hb => .inl hb)) hv')
   ·exact RV1.weak (E' := ⟨fun b => E.ok b ∨ ∃ i k,Tk (ev i) (st.t i) k b,E.ρ⟩) (fun b hb => Or.inl hb) (fun q R hq => ⟨hr q R hq,rfl⟩) hy
  ·exact .one _ _ (.any _)
 ·exfalso
  simp only [St.restrict,tab_map fun j => fz (st.t j)] at ht
  split at ht
  ·exact (Tk.comps fd_fz ht).2
  ·exact noTk_any _ _ ht
theorem open1_ok (h : SimE φ w0 L E st ev w) (n : Nat) : ∃ E',SimE φ w0 L E' (st.open1 n) ev w := by
 unfold St.open1
 split
 rotate_left
 ·exact ⟨E,h⟩
 rename_i z cs hR
 split
 rotate_left
 ·exact ⟨E,h⟩
 rename_i z1 hc
 split
 rotate_left
 ·exact ⟨E,h⟩
 rename_i hcond
 obtain ⟨hn,hnone⟩ := hcond
 have hnone : st.r n = none := by cases e : st.r n with | none => rfl | some R => rw [e] at hnone; cases hnone
 generalize hq : n / 1000 - 1 = q at *
 generalize hcc : n % 1000 = c at *
 have hsub : sub q c = n := by simp only [sub]; omega
 have hc1000 : c < 1000 := by omega
 have hqn : q ≠ n := by omega
 have hroot := h.roots q _ hR
 cases hroot with
 | box b o z x vs hρ hz hlt hl hh hv hrm =>
 have hvc : ∃ v,vs[c]? = some v := by
  have : c < (A.agg cs).cells.length := by
   rcases Nat.lt_or_ge c cs.length with h' | h'
   ·exact h'
   ·rw [List.getElem?_eq_none h'] at hc; cases hc
  exact ⟨vs[c],List.getElem?_eq_getElem (by omega)⟩
 obtain ⟨v,hvc⟩ := hvc
 have hcell := hh c v _ hvc hc
 have hnil : v = .slice none 0 0 := by
  cases hcell with
  | data _ hr ha => cases hr; rfl
 have hcells : ∀ p' R',st.r p' = some R' → R'.b = true → ∀ x ∈ R'.xs,∀ y ∈ x.cells,refs1 n y = false := by
  intro p' R' hp hb x hx y hy
  cases hro : refs1 n y with
  | false => rfl
  | true =>
    exfalso
    cases h.roots p' R' hp with
    | empty z h => cases hb
    | sl => cases hb
    | box b' o' z' x' vs' hρ' hz' hlt' hl' hh' hv' hrm' =>
      simp only [List.mem_singleton] at hx
      subst hx
      obtain ⟨j,hj,hy'⟩ := List.getElem_of_mem hy
      have hvj : vs'[j]? = some (vs'[j]'(by omega)) := List.getElem?_eq_getElem (by omega)
      have hxj : x.cells[j]? = some y := by rw [List.getElem?_eq_getElem hj,hy']
      cases hh' j _ _ hvj hxj with
      | data _ hr _ => rw [Rep.noRef hr] at hro; cases hro
      | any => cases hro
      | view off n' hj1000 hr _ =>
        simp only [refs1,beq_iff_eq] at hro
        obtain ⟨rfl,rfl⟩ := sub_inj hj1000 hc1000 (hro.trans hsub.symm)
        rw [hR] at hp
        cases hp
        rw [show (A.agg cs).cells = cs from rfl,hc] at hxj
        cases hxj
 have h1 := h.kill n
 have hpl : L.pl n = none := by rw [← hsub]; exact Lent.sub
 have hk : ∀ i,refs n ((st.kill n).t i) = false := fun i => refs_kill n _
 have h2 := h1.root (q := n) (R := ⟨false,z1,[]⟩) (p := none) hnone hk hcells (fun b o e => by cases e) (fun p' e => by rw [hpl] at e; cases e) (.empty z1 (by simp))
 generalize hE : (⟨E.ok,fun i => if i = n then none else E.ρ i⟩ : Env) = E2 at h2
 have hEok : E2.ok = E.ok := by rw [← hE]
 have hEρ : ∀ i,i ≠ n → E2.ρ i = E.ρ i := fun i hi => by rw [← hE]; simp [hi]
 have hEn : E2.ρ n = none := by rw [← hE]; simp
 generalize hs1 : (st.kill n).setRoot n (some ⟨false,z1,[]⟩) = st1 at h2
 have hr1 : ∀ i,i ≠ n → st1.r i = st.r i := fun i hi => by rw [← hs1]; simp [St.setRoot,St.kill,St.map,hi]
 have hrn : st1.r n = some ⟨false,z1,[]⟩ := by rw [← hs1]; simp [St.setRoot]
 have hρ2 : E2.ρ q = some (b,o) := by rw [hEρ q hqn,hρ]
 have hRq : st1.r q = some ⟨true,z,[.agg cs]⟩ := by rw [hr1 q hqn,hR]
 obtain ⟨z1',z2',z3'⟩ := h2.rz q b o (by rw [hRq]; rfl) hρ2
 have hlen : (A.agg (cs.set c (.view n 0 0))).cells.length = (A.agg cs).cells.length := by simp [A.cells]
 have W : Wr w0 L E2 st1.r (fun i => if i = q then some ⟨true,z,[.agg (cs.set c (.view n 0 0))]⟩ else st1.r i) w w b := {
  same := fun _ _ => rfl
  size := rfl
  env := ⟨rfl,rfl⟩
  fr := fun _ => rfl
  zone := z2'
  nok := z1'
  room := fun _ h => h
  sh := fun q' R' hq' => by
   by_cases e : q' = q
   ·subst e
    rw [if_pos rfl] at hq'
    cases hq'
    exact ⟨_,hRq,rfl,rfl,rfl⟩
   ·rw [if_neg e] at hq'
    exact ⟨R',hq',rfl,rfl,rfl⟩ }
 have h3 := h2.write W (fun i k ht => (h2.tz i k b ht).2 q b o (by rw [hRq]; rfl) hρ2 rfl) (fun q' R' hq' => by
  by_cases e : q' = q
  ·subst e
   rw [if_pos rfl] at hq'
   cases hq'
   right
   refine .box b o z _ vs hρ2 (hlen.trans hz) hlt (hl.trans hlen.symm) (fun c' v' a' h4 h5 => ?_) hv hrm
   by_cases e2 : c' = c
   ·subst e2
    have hcl : c' < cs.length := by
     rcases Nat.lt_or_ge c' cs.length with h' | h'
     ·exact h'
     ·rw [List.getElem?_eq_none h'] at hc; cases hc
    rw [show (A.agg (cs.set c' (.view n 0 0))).cells = cs.set c' (.view n 0 0) from rfl,List.getElem?_set_self hcl] at h5
    cases h5
    rw [hvc] at h4
    cases h4
    subst hnil
    rw [← hsub]
    refine .view _ 0 0 hc1000 ?_ ⟨fun _ e => (by cases e),fun _ e => (by cases e)⟩
    rw [hsub]
    exact .viewE none n 0 ⟨false,z1,[]⟩ (by rw [if_neg (Ne.symm hqn)]; exact hrn) rfl (Nat.zero_le _)
   ·rw [show (A.agg (cs.set c (.view n 0 0))).cells = cs.set c (.view n 0 0) from rfl,List.getElem?_set_ne (Ne.symm e2)] at h5
    have hold := h2.roots _ _ hRq
    cases hold with
    | box b2 o2 z2 x2 vs2 hρ3 hz3 hlt3 hl3 hh3 hv3 hrm3 =>
    rw [hρ2] at hρ3
    cases hρ3
    have : vs2 = vs := by
     refine List.ext_getElem? fun m => ?_
     rcases Nat.lt_or_ge m vs.length with h' | h'
     ·have a1 := hv m _ (List.getElem?_eq_getElem h')
      have h'' : m < vs2.length := by omega
      have a2 := hv3 m _ (List.getElem?_eq_getElem h'')
      rw [List.getElem?_eq_getElem h',List.getElem?_eq_getElem h'']
      exact a2.symm.trans a1
     ·rw [List.getElem?_eq_none h',List.getElem?_eq_none (by omega)]
    subst this
    exact (hh3 c' v' a' h4 h5).write W
  ·rw [if_neg e] at hq'
   refine .inl ⟨hq',fun o' e3 => ?_⟩
   exact h2.inj q' q b o' b o (by rw [hq']; rfl) (by rw [hRq]; rfl) e3 hρ2 e rfl)
 refine ⟨E2,?_⟩
 have : st1.setRoot q (some ⟨true,z,[.agg (cs.set c (.view n 0 0))]⟩) = { st1 with r := fun i => if i = q then some ⟨true,z,[.agg (cs.set c (.view n 0 0))]⟩ else st1.r i } := rfl
 rw [this]
 exact h3
theorem least {p : Nat → Prop} : ∀ n,p n → ∃ k,p k ∧ ∀ j,p j → k ≤ j := by
 intro n
 induction n using Nat.strongRecOn with
 | _ n ih =>
   intro hn
   by_cases h : ∃ m,m < n ∧ p m
   ·obtain ⟨m,h1,h2⟩ := h; exact ih m h1 h2
   ·exact ⟨n,hn,fun j hj => by
     rcases Nat.lt_or_ge j n with h1 | h1
     ·exact absurd ⟨j,h1,hj⟩ h
     ·exact h1⟩
theorem least' {p : Nat → Prop} (h : ∃ k,p k) : ∃ k,p k ∧ ∀ j,p j → k ≤ j := by obtain ⟨n,hn⟩ := h; exact least n hn
def Ex.toExit : Ex → Exit
 | .normal => .normal
 | .exit i => .exit i
 | .ret => .ret
def chkCode (P : Program) (φ : Nat → Nat) (n : Nat) (lp : List Bool) : C → Code → Bool
 | .norm _ _ b,c => chkCode P φ n lp b c
 | .opn _ b,c => chkCode P φ n lp b c
 | .stop,_ => true
 | .skip,.skip => true
 | .skip,.label _ => true
 | .reg draw xs _ _,.region _ ops draw' => draw == draw' && chkOps P φ n lp ops.toList xs && (!draw || chkDraw ops.toList xs)
 | .seq a b,.seq a' b' => chkCode P φ n lp a a' && chkCode P φ n lp b b'
 | .cond c a b,.cond c' a' b' => chkOpd φ c' c && chkCode P φ n lp a a' && chkCode P φ n lp b b'
 | .block i b,.block j b' => i == j && chkCode P φ n lp b b'
 | .loop b,.loop b' => chkCode P φ n lp b b'
 | .exit i,.exit j => i == j
 | .ret,.ret => true
 | _,_ => false
def ExecOk (P : Program) (φ : Nat → Nat) (ex : C → St → Option (Ex × St)) : Prop :=
 ∀ (x : C) (c : Code) (n : Nat) (lp : List Bool),chkCode P φ n lp x c = true → ∀ (w0 : World) (L : Lent),(∀ i p,L.pl i = some p → (lp[i]?).getD false = true) → Gl P w0 L → ∀ (E : Env) (st : St) (a : Act) (w : World) (e : Ex) (st' : St),
   Sim φ w0 L E st a w → a.tmps.size = n → ex x st = some (e,st') → ∀ Q : Exit → Act → World → Prop,(∀ E' a' w',Sim φ w0 L E' st' a' w' → a'.tmps.size = n → Q e.toExit a' w') → c.wp P Q a w
theorem exec_zero (M : Nat → Option Def) : ExecOk P φ (exec M 0) := fun x c n lp _ w0 L _ _ E st a w e st' _ _ he => by simp [exec] at he
theorem chkOps_range {n : Nat} {lp : List Bool} {ops : Array Oper} {xs : List Op} (h : chkOps P φ n lp ops.toList xs = true) (st : St) : runOps cf io xs xs st = runI cf io xs (List.range ops.size) st := by
 have hl := chkOps_len h
 rw [runOps_runI xs xs [] st rfl]
 simp only [List.length_nil]
 rw [← hl,Array.length_toList,List.range_eq_range']
theorem exec_succ {M : Nat → Option Def} (hm : P.follows .mixedOrders = true) {m : Nat} (ih : ∀ k,k ≤ m → ExecOk P φ (exec M k)) (hcf : CfOk P φ (callF M (exec M m))) : ExecOk P φ (exec M (m + 1)) := by
 intro x c n lp hc w0 L hlp hG E st a w e st' h hn he Q hQ
 cases x with
 | stop => simp [exec] at he
 | norm keep keepR b =>
   simp only [exec] at he
   obtain ⟨E1,h1⟩ := restrict_ok h.toSimE keep keepR
   simp only [chkCode] at hc
   exact ih m (Nat.le_refl _) b c n lp hc w0 L hlp hG E1 _ a w e st' ⟨h1,h.nodef⟩ hn he Q hQ
 | opn i b =>
   simp only [exec] at he
   obtain ⟨E1,h1⟩ := open1_ok h.toSimE i
   simp only [chkCode] at hc
   exact ih m (Nat.le_refl _) b c n lp hc w0 L hlp hG E1 _ a w e st' ⟨h1,h.nodef⟩ hn he Q hQ
 | skip =>
   simp only [exec,Option.some.injEq,Prod.mk.injEq] at he
   obtain ⟨rfl,rfl⟩ := he
   cases c <;> first
    | exact wp_skip (hQ E a w h hn)
    | exact wp_label (hQ E a w h hn)
    | (simp [chkCode] at hc; done)
 | reg draw xs keep keepR =>
   cases c <;> first
    | (simp [chkCode] at hc; done)
    | skip
   rename_i id ops draw'
   simp only [chkCode,Bool.and_eq_true,beq_iff_eq] at hc
   obtain ⟨⟨rfl,hops⟩,hdr⟩ := hc
   simp only [exec] at he
   obtain ⟨s,hs,he⟩ := Option.map_eq_some_iff.1 he
   simp only [Prod.mk.injEq] at he
   obtain ⟨rfl,rfl⟩ := he
   rw [chkOps_range hops] at hs
   have hQ' : ∀ E' a' w',Sim φ w0 L E' s a' w' → a'.tmps.size = n → Q .normal a' w' := fun E' a' w' hS hn' => by
    obtain ⟨E1,h1⟩ := restrict_ok hS.toSimE keep keepR
    exact hQ E1 a' w' ⟨h1,hS.nodef⟩ hn'
   cases draw with
   | false => exact wp_region (seq_sound ⟨hcf,hG⟩ hlp hops hQ' h hn hs)
   | true =>
     simp only [Bool.not_true,Bool.false_or] at hdr
     refine wp_region_any hm ?_
     have hext : Ext w { w with drawn := w.drawn + 1 } := ⟨Nat.le_refl _,fun _ _ => rfl,⟨rfl,rfl⟩⟩
     refine any_sound ⟨hcf,hG⟩ hlp hops hdr hQ' ops.size (rem := List.range ops.size) (by simp) List.pairwise_lt_range (by simp) (fun i => ?_) (fun k hk => ?_) (h.ext hext (.refl E w _)) hn hs
     ·simp only [List.mem_range]
      constructor
      ·intro hi; exact ⟨hi,by simp [Array.getD_eq_getD_getElem?,hi]⟩
      ·exact fun h => h.1
     ·rw [Array.getD_eq_getD_getElem?] at hk
      by_cases hi : k < ops.size
      ·simp [hi] at hk
      ·simp [Array.getElem?_eq_none (xs := Array.replicate ops.size false) (i := k) (by simpa using hi)] at hk
 | seq x y =>
   cases c <;> first
    | (simp [chkCode] at hc; done)
    | skip
   rename_i c d
   simp only [chkCode,Bool.and_eq_true] at hc
   simp only [exec] at he
   apply wp_seq
   split at he
   ·rename_i s hx
    refine ih m (Nat.le_refl _) x c n lp hc.1 w0 L hlp hG E st a w .normal s h hn hx _ fun E' a' w' hS hn' => ?_
    exact ih m (Nat.le_refl _) y d n lp hc.2 w0 L hlp hG E' s a' w' e st' hS hn' he Q hQ
   ·rename_i hne
    refine ih m (Nat.le_refl _) x c n lp hc.1 w0 L hlp hG E st a w e st' h hn he _ fun E' a' w' hS hn' => ?_
    have hq := hQ E' a' w' hS hn'
    cases e with
    | normal => exact absurd he (hne _)
    | exit i => exact hq
    | ret => exact hq
 | cond o x y =>
   cases c <;> first
    | (simp [chkCode] at hc; done)
    | skip
   rename_i o' c d
   simp only [chkCode,Bool.and_eq_true] at hc
   obtain ⟨⟨hco,h1⟩,h2⟩ := hc
   simp only [exec] at he
   have hv := (opd_ok h hco).1
   split at he
   ·rename_i t ht
    rw [ht] at hv
    refine wp_cond hv.bool_inv ?_
    cases t
    ·exact ih m (Nat.le_refl _) y d n lp h2 w0 L hlp hG E st a w e st' h hn he Q hQ
    ·exact ih m (Nat.le_refl _) x c n lp h1 w0 L hlp hG E st a w e st' h hn he Q hQ
   ·cases he
 | block i x =>
   cases c <;> first
    | (simp [chkCode] at hc; done)
    | skip
   rename_i j c
   simp only [chkCode,Bool.and_eq_true,beq_iff_eq] at hc
   obtain ⟨rfl,h1⟩ := hc
   simp only [exec] at he
   apply wp_block
   split at he
   ·rename_i k s hx
    refine ih m (Nat.le_refl _) x c n lp h1 w0 L hlp hG E st a w (.exit k) s h hn hx _ fun E' a' w' hS hn' => ?_
    simp only [Ex.toExit,Exit.inBlock]
    split at he
    ·rename_i hk
     simp only [Option.some.injEq,Prod.mk.injEq] at he
     obtain ⟨rfl,rfl⟩ := he
     rw [if_pos hk]
     exact hQ E' a' w' hS hn'
    ·rename_i hk
     simp only [Option.some.injEq,Prod.mk.injEq] at he
     obtain ⟨rfl,rfl⟩ := he
     rw [if_neg hk]
     exact hQ E' a' w' hS hn'
   ·rename_i hne
    refine ih m (Nat.le_refl _) x c n lp h1 w0 L hlp hG E st a w e st' h hn he _ fun E' a' w' hS hn' => ?_
    have hq := hQ E' a' w' hS hn'
    cases e with
    | normal => exact hq
    | exit k => exact absurd he (hne _ _)
    | ret => exact hq
 | loop x =>
   cases c <;> first
    | (simp [chkCode] at hc; done)
    | skip
   rename_i c
   simp only [chkCode] at hc
   let R : Nat → Act → World → Prop := fun k a w => k ≤ m + 1 ∧ a.tmps.size = n ∧ ∃ E st,Sim φ w0 L E st a w ∧ exec M k (.loop x) st = some (e,st')
   classical
   let μ : Act → World → Nat := fun a w => if hx : ∃ k,R k a w then Classical.choose (least' hx) else 0
   have hμ1 : ∀ a w,(∃ k,R k a w) → R (μ a w) a w ∧ ∀ j,R j a w → μ a w ≤ j := fun a w hx => by
    have h1 : μ a w = Classical.choose (least' hx) := dif_pos hx
    rw [h1]
    exact Classical.choose_spec (least' hx)
   refine wp_loop (fun a w => ∃ k,R k a w) μ ⟨m + 1,Nat.le_refl _,hn,E,st,h,he⟩ fun a w hI => ?_
   have hR := (hμ1 a w hI).1
   obtain ⟨hle,hn',E1,s1,hS,hx⟩ := hR
   cases hk : μ a w with
   | zero => rw [hk] at hx; simp [exec] at hx
   | succ k =>
     rw [hk] at hx hle
     simp only [exec] at hx
     split at hx
     ·rename_i s2 hx2
      refine ih k (by omega) x c n lp hc w0 L hlp hG E1 s1 a w .normal s2 hS hn' hx2 _ fun E' a' w' hS' hn'' => ?_
      have hI' : ∃ k,R k a' w' := ⟨k,by omega,hn'',E',s2,hS',hx⟩
      refine ⟨hI',?_⟩
      have : μ a' w' ≤ k := (hμ1 a' w' hI').2 k ⟨by omega,hn'',E',s2,hS',hx⟩
      omega
     ·rename_i hne
      refine ih k (by omega) x c n lp hc w0 L hlp hG E1 s1 a w e st' hS hn' hx _ fun E' a' w' hS' hn'' => ?_
      have hq := hQ E' a' w' hS' hn''
      cases e with
      | normal => exact absurd hx (hne _)
      | exit i => exact hq
      | ret => exact hq
 | exit i =>
   cases c <;> first
    | (simp [chkCode] at hc; done)
    | skip
   simp only [chkCode,beq_iff_eq] at hc
   subst hc
   simp only [exec,Option.some.injEq,Prod.mk.injEq] at he
   obtain ⟨rfl,rfl⟩ := he
   exact wp_exit (hQ E a w h hn)
 | ret =>
   cases c <;> first
    | (simp [chkCode] at hc; done)
    | skip
   simp only [exec,Option.some.injEq,Prod.mk.injEq] at he
   obtain ⟨rfl,rfl⟩ := he
   exact wp_ret (hQ E a w h hn)
end
end Go.Ab
namespace Go.Ab
section
variable {P : Program} {φ : Nat → Nat} {w0 : World} {L : Lent} {E E' : Env} {st st' : St} {ev : Nat → Value} {w w' : World} {a : Act} {K : Nat → Prop}
def place : Value → A → Option (Nat × Nat)
 | .pointer (some ad),.iob .. => some (ad.block,ad.off)
 | .slice (some ad) _ cap,.ios .. => if cap = 0 then none else some (ad.block,ad.off)
 | _,_ => none
theorem place_lent {v : Value} {x : A} {p : Nat × Nat} (h : place v x = some p) : isLent x = true := by
 unfold place at h
 split at h
 ·rfl
 ·rfl
 ·cases h
theorem lentOk_at : ∀ {io : List Bool} {as : List A},lentOk io as = true → ∀ {i : Nat} {x : A},as[i]? = some x → isLent x = true → (io[i]?).getD false = true
 | _,[],_,i,x,h,_ => by simp at h
 | b :: bs,a :: l,h,i,x,hx,hl => by
   simp only [lentOk,Bool.and_eq_true,Bool.or_eq_true,Bool.not_eq_true'] at h
   cases i with
   | zero =>
     simp at hx; subst hx
     rcases h.1 with h1 | h1
     ·rw [hl] at h1; cases h1
     ·simpa using h1
   | succ i => simpa using lentOk_at h.2 (i := i) (by simpa using hx) hl
 | [],a :: l,h,i,x,hx,hl => by
   simp only [lentOk,Bool.and_eq_true,Bool.not_eq_true'] at h
   cases i with
   | zero => simp at hx; subst hx; rw [hl] at h; cases h.1
   | succ i => simpa using lentOk_at (io := []) h.2 (i := i) (by simpa using hx) hl
theorem CellReps.lt : ∀ {vs : List Value} {xs : List A} {bs : List Nat},CellReps φ w K vs xs bs → ∀ b ∈ bs,b < w.heap.size
 | _,_,_,.nil,b,h => by cases h
 | _,_,_,.cons v x ob vs xs bs h t,b,hb => by
   rcases List.mem_append.1 hb with hb | hb
   ·cases h with
    | data => simp at hb
    | own _ _ _ h => cases h with
      | empty => simp at hb
      | mk b o cap z xs vs hc h0 hz h hv hr => simp at hb; subst hb; exact hr.lt
   ·exact t.lt b hb
theorem ArgReps.lt : ∀ {vs : List Value} {xs : List A} {bs : List Nat},ArgReps φ w K vs xs bs → ∀ b ∈ bs,b < w.heap.size
 | _,_,_,.nil,b,h => by cases h
 | _,_,_,.cons v x ob vs xs bs h t,b,hb => by
   rcases List.mem_append.1 hb with hb | hb
   ·cases h with
    | data => cases hb
    | iob _ _ _ h => cases h with
      | mk b o z x vs bs h hv hr hz =>
        rcases List.mem_cons.1 hb with rfl | hb
        ·exact hr.lt
        ·exact h.lt _ hb
    | ios _ _ _ h => cases h with
      | empty => simp at hb
      | mk b o cap z xs vs hc h0 hz h hv hr => simp at hb; subst hb; exact hr.lt
   ·exact t.lt b hb
theorem ArgReps.length : ∀ {vs : List Value} {xs : List A} {bs : List Nat},ArgReps φ w K vs xs bs → vs.length = xs.length
 | _,_,_,.nil => rfl
 | _,_,_,.cons _ _ _ _ _ _ _ t => congrArg (· + 1) t.length
theorem SimE.putE (h : SimE φ w0 L E st ev w) {i : Nat} {x : A} (hv : RV φ E st.r w (ev i) x) (hn : ∀ k b,¬ Tk (ev i) x k b) : SimE φ w0 L E (st.put (some i) x) ev w :=
 h.weak (fun _ _ h => h) (fun j => by
  simp only [St.put]
  split
  ·rename_i e; rw [e]; exact hv
  ·exact h.slots j) (fun j k b ht => by
  simp only [St.put] at ht
  split at ht
  ·rename_i e; rw [e] at ht; exact (hn k b ht).elim
  ·exact ⟨j,ht⟩)
theorem Fresh.putE {b : Nat} (h : Fresh w0 L E st ev w b) {i : Nat} {x : A} (hn : ∀ k b,¬ Tk (ev i) x k b) : Fresh w0 L E (st.put (some i) x) ev w b :=
 ⟨h.z,h.r,fun j k b' ht => by
   simp only [St.put] at ht
   split at ht
   ·rename_i e; rw [e] at ht; exact (hn k b' ht).elim
   ·exact h.t j k b' ht⟩
theorem enterArgs_ok : ∀ {as : List A} {vs : List Value} {i : Nat} {E : Env} {st st1 : St} {bs : List Nat},SimE φ w0 L E st ev w → ArgReps φ w E.ok vs as bs → bs.Nodup → (∀ b ∈ bs,Fresh w0 L E st ev w b) →
 (∀ j v,vs[j]? = some v → ev (i + j) = v) → (∀ j v x,vs[j]? = some v → as[j]? = some x → L.pl (i + j) = if i + j < 1000 then place v x else none) → enterArgs i as st = some st1 →
 ∃ E1,SimE φ w0 L E1 st1 ev w ∧ E1.ok = E.ok
 | [],vs,i,E,st,st1,bs,h,ha,_,_,_,_,he => by
   simp [enterArgs] at he; subst he; exact ⟨E,h,rfl⟩
 | x :: as,vs,i,E,st,st1,bs,h,ha,hnd,hF,hev,hpl,he => by
   cases ha with
   | cons v _ b0 vs _ bs0 h0 t =>
     obtain ⟨n1,n2,n3⟩ := List.nodup_append.1 hnd
     have hv0 : ev i = v := by have := hev 0 v rfl; simpa using this
     have hev' : ∀ j u,vs[j]? = some u → ev (i + 1 + j) = u := fun j u hu => by
      have := hev (j + 1) u (by simpa using hu)
      rwa [show i + (j + 1) = i + 1 + j from by omega] at this
     have hpl' : ∀ j u y,vs[j]? = some u → as[j]? = some y → L.pl (i + 1 + j) = if i + 1 + j < 1000 then place u y else none := fun j u y hu hy => by
      have := hpl (j + 1) u y (by simpa using hu) (by simpa using hy)
      rwa [show i + (j + 1) = i + 1 + j from by omega] at this
     have hp0 : L.pl i = if i < 1000 then place v x else none := by have := hpl 0 v x rfl rfl; simpa using this
     cases h0 with
     | data _ hr =>
       have hnt : ∀ k b,¬ Tk (ev i) x k b := fun k b => by rw [hv0]; exact Tk.of_rep hr
       have hp : enterArgs i (x :: as) st = if Ab.pure x || isFn x then enterArgs (i + 1) as (st.put (some i) x) else none := by
        cases hr <;> rfl
       rw [hp] at he
       split at he
       ·have h1 := h.putE (i := i) (x := x) (by rw [hv0]; exact .one _ _ (.data _ _ hr)) hnt
        exact enterArgs_ok h1 t n2 (fun b hb => (hF b (List.mem_append_right _ hb)).putE hnt) hev' hpl' he
       ·cases he
     | iob z x _ hb =>
       simp only [enterArgs] at he
       obtain ⟨s,hs,he⟩ := Option.bind_eq_some_iff.1 he
       obtain ⟨E1,h1,hok,hrv,hfr⟩ := h.takeVar hs hb n1 (fun b hb => hF b (List.mem_append_left _ hb)) (fun p' e => by
        rw [hp0] at e
        split at e
        ·cases hb with
         | mk b o z x us bs hcr hcl hrm hz =>
           simp only [place,Option.some.injEq] at e
           rw [← e]
        ·cases e)
       have hnt : ∀ k b,¬ Tk (ev i) (.loc i 0 0) k b := fun k b => noTk_loc k b
       have h2 := h1.putE (i := i) (x := .loc i 0 0) (by rw [hv0]; exact .one _ _ hrv) hnt
       obtain ⟨E2,h3,hok2⟩ := enterArgs_ok h2 (by rw [hok]; exact t) n2 (fun b hb => (hfr b (fun hm => n3 b hm b hb rfl) (hF b (List.mem_append_right _ hb))).putE hnt) hev' hpl' he
       exact ⟨E2,h3,hok2.trans hok⟩
     | ios z xs ob ho =>
       simp only [enterArgs] at he
       split at he
       ·rename_i hi
        obtain ⟨E1,h1,_,hok,hrv,hfr⟩ := h.rootOwn (q := i) ho (fun b e => hF b (List.mem_append_left _ (by simp [e]))) (by
         rw [hp0,if_pos hi]
         cases ho with
         | empty ad z => cases ad <;> exact .inl rfl
         | mk b o cap z xs us hc hc0 hz hh hv hr => exact .inr ⟨b,o,_,cap,rfl,hc0,by simp [place,hc0]⟩) (h.noRef_lt hi)
        have hnt : ∀ k b,¬ Tk (ev i) (.view i 0 xs.length) k b := fun k b => noTk_view k b
        have h2 := h1.putE (i := i) (x := .view i 0 xs.length) (by rw [hv0]; exact .one _ _ hrv) hnt
        obtain ⟨E2,h3,hok2⟩ := enterArgs_ok h2 (by rw [hok]; exact t) n2 (fun b hb => (hfr b (fun e => n3 b (by simp [e]) b hb rfl) (hF b (List.mem_append_right _ hb))).putE hnt) hev' hpl' he
        exact ⟨E2,h3,hok2.trans hok⟩
       ·cases he
def lentOf (K : Nat → Prop) (vs : List Value) (as : List A) (bs : List Nat) : Lent where
 blk := (· ∈ bs)
 K0 := K
 pl := fun i => if i < 1000 then (match vs[i]?,as[i]? with | some v,some x => place v x | _,_ => none) else none
 lt := fun i p h => by split at h; assumption; cases h
theorem enter_ok {fn : Fn} {as : List A} {vs : List Value} {bs : List Nat} {n : Nat} {st0 : St} (ha : ArgReps φ w K vs as bs) (hnd : bs.Nodup) (hK : ∀ b ∈ bs,¬ K b) (hz : ∀ b,K b → b < w.heap.size) (he : fn.enter as = some st0) :
 ∃ E,Sim φ w (lentOf K vs as bs) E st0 { tmps := vs.toArray ++ Array.replicate (n - vs.length) undef,defers := [] } w ∧ E.ok = K := by
 unfold Fn.enter at he
 split at he
 ·have ht : ∀ i,(⟨tab [],rtab []⟩ : St).t i = .any := fun i => rfl
  have hr : ∀ i,(⟨tab [],rtab []⟩ : St).r i = none := fun i => rfl
  have h0 : SimE φ w (lentOf K vs as bs) ⟨K,fun _ => none⟩ ⟨tab [],rtab []⟩ (fun i => Act.eval { tmps := vs.toArray ++ Array.replicate (n - vs.length) undef,defers := [] } (.tmp i)) w := {
   slots := fun i => by rw [ht]; exact .one _ _ (.any _)
   roots := fun q R h => by rw [hr] at h; cases h
   inj := fun q q' b o b' o' h => by rw [hr] at h; cases h
   rz := fun q b o h => by rw [hr] at h; cases h
   tz := fun i k b h => by rw [ht] at h; exact (noTk_any _ _ h).elim
   td := fun i j k k' b b' h => by rw [ht] at h; exact (noTk_any _ _ h).elim
   okz := hz,grow := Nat.le_refl _,frame := fun _ _ _ => rfl,env := ⟨rfl,rfl⟩,fr := fun _ _ _ => rfl,room := fun _ _ h => h
   lent := fun i p _ h => by rw [hr] at h; cases h
   okU := fun _ h => h,okL := fun _ h => .inl h }
  obtain ⟨E1,h1,hok⟩ := enterArgs_ok h0 ha hnd (fun b hb => ⟨⟨hK b hb,.inr hb,ha.lt b hb⟩,(fun q b' o h => by rw [hr] at h; cases h),(fun i k b' h => by rw [ht] at h; exact (noTk_any _ _ h).elim)⟩) (fun j v hv => by
   have hj : j < vs.length := by
    rcases Nat.lt_or_ge j vs.length with h | h
    ·exact h
    ·simp [List.getElem?_eq_none h] at hv
   simp only [Act.eval,Nat.zero_add]
   rw [Array.getD_eq_getD_getElem?,Array.getElem?_append_left (by simpa using hj)]
   simp [hv]) (fun j v x hv hx => by simp only [lentOf,Nat.zero_add,hv,hx]) he
  exact ⟨E1,⟨h1,rfl⟩,hok⟩
 ·cases he
end
end Go.Ab
