/- Callees given by contracts. Conditions: none. -/
import Derived.Test.YtkgfikfdiobnoaaGreatDoorL3
import Derived.Below
import Derived.Handed
import Derived.HandedShaped
import Derived.LaidLaws
import Derived.Lib.ItoaNum
import Derived.Lib.Strings
import Derived.Lib.Split
import Derived.Lib.Join
import Derived.Lib.Repeat
import Derived.Lib.IndexMore
import Derived.Lib.ParseIntBTie
import Derived.Stop.LaidErr
import Derived.MakeChecks
import Derived.Stop.Joined
set_option linter.unusedVariables false
set_option linter.unusedSimpArgs false
namespace Go.Ab
open Go.RowKit
section
variable {P : Program} {φ : Nat → Nat}
theorem Room.below {z : Nat} {w w' : World} (h : Below w.heap.size w w') {b n : Nat} (hr : Room z w b n) : Room z w' b n := hr.of_block (h.block b hr.lt)
def lentA : A → Bool
 | .iob .. | .ios .. => true
 | _ => false
theorem OutReps.data_all {w : World} {K : Nat → Prop} : ∀ {vs : List Value} {as : List A},vs.length = as.length → as.any lentA = false → OutReps φ w K vs as [] []
 | [],[],_,_ => .nil
 | [],_ :: _,h,_ => by simp at h
 | _ :: _,[],h,_ => by simp at h
 | v :: vs,a :: as,h,hn => by
   simp only [List.any_cons,Bool.or_eq_false_iff] at hn
   exact .data _ _ _ _ _ _ ⟨fun z xs e => by subst e; simp [lentA] at hn,fun z xs e => by subst e; simp [lentA] at hn⟩ (OutReps.data_all (by simpa using h) hn.2)
theorem ArgReps.len {w : World} {K : Nat → Prop} {vs : List Value} {as : List A} {bs : List Nat} (h : ArgReps φ w K vs as bs) : vs.length = as.length := by
 induction h with
 | nil => rfl
 | cons _ _ _ _ _ _ _ _ ih => simp [ih]
theorem ArgReps.noLent {w : World} {K : Nat → Prop} {vs : List Value} {as : List A} {bs : List Nat} (h : ArgReps φ w K vs as bs) (hn : as.any lentA = false) : Reps φ w K vs as ∧ bs = [] := by
 induction h with
 | nil => exact ⟨.nil,rfl⟩
 | cons v a b vs as bs h t ih =>
   simp only [List.any_cons,Bool.or_eq_false_iff] at hn
   obtain ⟨i1,i2⟩ := ih hn.2
   cases h with
   | data _ h' => exact ⟨.cons _ _ _ _ h' i1,by simp [i2]⟩
   | iob => simp [lentA] at hn
   | ios => simp [lentA] at hn
theorem ResReps.of_reps {w : World} {K : Nat → Prop} : ∀ {vs : List Value} {as : List A},Reps φ w K vs as → ResReps φ w K vs as []
 | _,_,.nil => .nil
 | _,_,.cons v a vs as h t => .cons _ _ [] _ _ _ (.data _ _ h) (ResReps.of_reps t)
theorem CallOk.of_below {g : Nat} {as res : List A} (hn : as.any lentA = false)
 (h : ∀ (w : World) (K : Nat → Prop) (vs : List Value),Reps φ w K vs as → (∀ b,K b → b < w.heap.size) → Glob P K w →
   Calls P (φ g) vs.toArray w fun e w' => ∃ rvs K' rb,e = .returned (packV rvs) ∧ Below w.heap.size w w' ∧ (∀ b,K b → K' b) ∧ (∀ b,K' b → K b ∨ (w.heap.size ≤ b ∧ b < w'.heap.size)) ∧
    ResReps φ w' K' rvs res rb ∧ rb.Nodup ∧ ∀ b ∈ rb,¬ K' b ∧ b < w'.heap.size ∧ w.heap.size ≤ b) : CallOk P φ g as res [] := by
 intro w K vs bs ha hnd hKb hKz hG
 obtain ⟨hr,rfl⟩ := ha.noLent hn
 refine (h w K vs hr hKz hG).mono fun e w' hh => ?_
 obtain ⟨rvs,K',rb,rfl,hb,h1,h2,h3,h4,h5⟩ := hh
 refine ⟨_,rfl,hb.size,fun b hb' _ => hb.block b hb',⟨hb.os,hb.output⟩,fun b off hb' => frozen?_block (hb.block b hb') off,fun b n hr => hr.below hb,?_⟩
 refine ⟨rvs,K',rb,[],rfl,h1,fun b hb' => (h2 b hb').elim .inl fun h => .inr (.inr h),h3,OutReps.data_all ha.len hn,by simpa using h4,fun b hb' => ?_⟩
 rw [List.append_nil] at hb'
 exact ⟨(h5 b hb').1,(h5 b hb').2.1,.inr (h5 b hb').2.2⟩
theorem CallOk.of_plain {g : Nat} {as res : List A} (hn : as.any lentA = false)
 (h : ∀ (w : World) (K : Nat → Prop) (vs : List Value),Reps φ w K vs as → (∀ b,K b → b < w.heap.size) → Glob P K w →
   Calls P (φ g) vs.toArray w fun e w' => ∃ rvs,e = .returned (packV rvs) ∧ Below w.heap.size w w' ∧ Reps φ w (fun _ => False) rvs res) : CallOk P φ g as res [] := by
 refine CallOk.of_below hn fun w K vs hr hK hG => (h w K vs hr hK hG).mono fun e w' hh => ?_
 obtain ⟨rvs,rfl,hb,h3⟩ := hh
 refine ⟨rvs,K,[],rfl,hb,fun _ h => h,fun _ h => .inl h,?_,List.nodup_nil,fun b hb => by cases hb⟩
 exact ResReps.of_reps (h3.mono (fun _ h => h.elim) (fun _ h => h.elim))
theorem FOk.none {g : Nat} {io : List Bool} {ps rs os : List MT} (he : Entered P (φ g)) : FOk P φ g ⟨io,ps,rs,os,fun _ => Option.none⟩ := by
 refine ⟨he,fun as res outs hc => ?_⟩
 unfold Callee.cf at hc
 split at hc
 ·simp at hc
 ·cases hc
def dOnly : List MT → Bool
 | [] => true
 | .d _ :: ms => dOnly ms
 | _ => false
theorem Znf : ∀ {ms : List MT} {as : List A},dOnly ms = true → normU ms as = as
 | [],as,_ => by cases as <;> rfl
 | .d E :: ms,[],_ => rfl
 | .d E :: ms,a :: as,h => by
   have : (MT.d E).norm a = a := by unfold MT.norm; split <;> first | rfl | (rename_i e; exact absurd e (by simp))
   rw [normU,this,Znf (ms := ms) h]
 | .p _ :: _,_,h | .tok _ :: _,_,h | .box _ :: _,_,h | .ios _ :: _,_,h | .fn _ _ :: _,_,h | .gone :: _,_,h => by simp [dOnly] at h
theorem FOk.of_contract {g : Nat} {c : Callee} (he : Entered P (φ g)) (hd : dOnly c.ps = true) (ho : c.os = [])
 (h : ∀ x y,c.f x = some y → CallOk P φ g (encU c.ps x) (resA c y).1 (resA c y).2) : FOk P φ g c := by
 refine ⟨he,fun as res outs hc => ?_⟩
 unfold Callee.cf at hc
 split at hc
 ·rename_i hx
  obtain ⟨y,hy,hr⟩ := Option.map_eq_some_iff.1 hc
  have h1 := h _ _ hy
  rw [hr] at h1
  have e : as = encU c.ps hx.choose := (Znf hd).symm.trans hx.choose_spec.2
  generalize hx.choose = x at e h1
  subst e
  exact h1
 ·cases hc
end
end Go.Ab
namespace Go.Ab
noncomputable def Zsz : Callee :=
 { io := [],ps := [.d (.one (.int .i64)),.d (.one (.int .i64))],rs := [.d (.one .str)],os := [],
   f := fun x => if decide (x.2.1 = 10) && (decide (-9223372036854775808 ≤ x.1) && decide (x.1 ≤ 9223372036854775807)) then some (Lib.itoa x.1) else none }
noncomputable def cutC : Callee :=
 { io := [],ps := [.d (.one .str),.d (.one .str)],rs := [.d (.one .str),.d (.one .str),.d (.one .bool)],os := [],
   f := fun x => if decide (List.length (α := UInt8) x.1 < 4294967281) then some (Lib.cut x.1 x.2.1) else none }
noncomputable def splitC : Callee :=
 { io := [],ps := [.d (.one .str),.d (.one .str)],rs := [.tok (.one .str)],os := [],
   f := fun x => if decide (List.length (α := UInt8) x.1 < 4294967281) && decide (1 ≤ List.length (α := UInt8) x.2.1) then some (Lib.splitK x.2.1 0 (Lib.count x.1 x.2.1) x.1) else none }
noncomputable def joinC : Callee :=
 { io := [],ps := [.d (.one (.sl (.one .str))),.d (.one .str)],rs := [.d (.one .str)],os := [],
   f := fun x => if decide (List.length (α := List UInt8) x.1 ≤ 140737488355328) && decide ((Lib.join x.1 x.2.1).length ≤ 140737488355328) then some (Lib.join x.1 x.2.1) else none }
def Zcu (l : List UInt8) : Int × Bool :=
 if 18 < (Lib.trimPrefix l [45]).length then (0,false) else
 match Lib.parseIntB 64 l with
 | .ok v => if Lib.itoa v = l then (v,true) else (0,false)
 | _ => (0,false)
noncomputable def Zyh : Callee :=
 { io := [],ps := [.d (.one .str)],rs := [.d (.one (.int .i64)),.d (.one .bool)],os := [],f := fun x => some (Zcu x.1) }
@[reducible] def stepE : ET := .agg (.cons .str (.cons (.int .i64) (.cons (.int .i64) (.cons (.sl (.one (.int .i64))) .nil))))
def vsSeen (ids : Nat → List UInt8) (k : Nat) : Nat → Bool
 | 0 => false
 | n + 1 => vsSeen ids k n || decide (ids n = ids k)
def vsGo (ids : Nat → List UInt8) (al : Nat → Nat) (last : Nat → Int) (ok : Nat → Bool) (fin : Bool) : Nat → Nat → Bool
 | 0,_ => fin
 | n + 1,k => if ok k then (if vsSeen ids k k then false else if decide (0 < al k) && decide ((k : Int) ≤ last k) then false else vsGo ids al last ok fin n (k + 1)) else false
def stAt (xs : List stepE.ty) (j : Nat) : stepE.ty := (xs[j]?).getD ([],0,0,[],())
end Go.Ab
namespace Go.Ab
theorem Zsk {P : Program} {n : String} {d : DataW Unit} {r : List (String × DataW Unit)} {W : World} {g : Nat} {ti : TypeId} {ms : Array (String × TypeId)}
 (h : laidMet P ((n,d) :: r) W) (hd : ∃ nm d',d = .iface nm d') (hg : P.globalNamed n = some g) (ht : (P.globals[g]?).map (·.type) = some ti) (hi : P.underlying ti = some (.interface ms)) :
 ∃ u v,W.var? P n = some #[.iface u v] := by
 obtain ⟨nm,d',rfl⟩ := hd
 obtain ⟨ps,⟨g0,t0,cs0,f0,p0,q0,hg0,ht0,hv0,hd0,_,e0⟩,_,hrows⟩ := h
 obtain rfl := Option.some.inj (hg.symm.trans hg0)
 obtain rfl := Option.some.inj (ht.symm.trans ht0)
 obtain ⟨_,u,v,hcs,_⟩ := iface_of_trod hi hd0
 refine ⟨u,v,?_⟩
 rw [hv0]
 congr 1
 exact Array.ext' hcs
section
variable {H : Type} {enc : TypeId × Value → H}
theorem Znw {a : Assume} {C : Checked} {os : Os} {f : FuncId} {fn : Func} {s : ChangeSpec} {conds : List PathCond} {apart fresh handsOn again : Bool} {laid : List (String × DataW Unit)}
 (own : ownKnob C.prog.godebug = none) (started : os.Started) (noInit : C.prog.inits.idxOf? f = none) (hfn : C.prog.funcs[f]? = some fn)
 (witness : ∃ (w : World) (tape : Tape) (i : Input),w.os = os ∧ (w.forCall tape i).Shaped C.prog ∧ i.vars = [] ∧ Input.okWide C.prog (w.forCall tape i) .any w.heap.size f i ∧
   ((s.pre enc C.prog fn conds apart (w.forCall tape i).memory i.args ∧ laidMetH C.prog laid (w.forCall tape i).memory) ∧ sizedMet enc C.prog fn (OpenSpec.ofChange s) apart (w.forCall tape i).memory i.args) ∧ a.holds C.prog (lone (Frame.enter C.prog f i.args .normal) [] (w.forCall tape i)))
 (Zr5 : ∀ (W : World) (base : Nat) (args : Array Value) (ds gs : List (DataW H)) (before : List MemPlace),
   (∀ (j : Nat) t v,fn.params[j]? = some t → args[j]? = some v → Value.okWide C.prog W .any base t v) →
   DataW.Whole enc C.prog fn.params.toList s.vars apart W args.toList ds gs before →
   laidMetH C.prog laid W → W.ShapedOpen C.prog →
   Calls C.prog f args W fun e W' => ∃ v,e = .returned v ∧ s.post enc C.prog fn apart fresh handsOn again W args v W') :
 ReturnsInHanded a C os f .any (fun w args => (s.pre enc C.prog fn conds apart w args ∧ laidMetH C.prog laid w) ∧ sizedMet enc C.prog fn (OpenSpec.ofChange s) apart w args) (s.post enc C.prog fn apart fresh handsOn again) := by
 refine returnsInHanded_of_calls own started noInit witness ?_
 intro w tape i _ hsh _ hok hpre hholds
 obtain ⟨_,_,_,fn',hfn',_,_,_,_,hval⟩ := hok
 have e : fn' = fn := Option.some.inj (hfn'.symm.trans hfn)
 subst e
 obtain ⟨⟨⟨ds,gs,before,hw,hc⟩,hx⟩,hz⟩ := hpre
 have hw' := DataW.Whole.of_heap (w' := w.forCall tape i) (by rfl) hw
 refine (Zr5 (w.forCall tape i) w.heap.size i.args ds gs before hval hw' (hx.of_heap (by rfl)) hsh).mono fun e W' ⟨v,he,hp⟩ => ?_
 subst he
 exact ChangeSpec.post_blind hp
end
end Go.Ab
