/- The law FnPages answers true for every input, whatever it is, and leaves its arguments as they were. Conditions: none. -/
import Derived.Test.YtljcekgbidbkbaaQFnPages
import Derived.Test.YtljcekgbidbkbaaRows
import Derived.Test.YtljcekgbidbkbaaL5
import Derived.Test.YtljcekgbidbkbaaLF
import Derived.Carry
import Derived.RangeFuncNested
import Derived.RangeFuncBound
import Derived.RangeFuncCalls
import Derived.RangeFuncLeaves
import Derived.RangeFuncBox
import Derived.Shelf.Abstract
import Derived.Shelf.RegionOpen
import Derived.OwnWalkIn
import Derived.TacticsInMore
import Derived.LoopNIn
import Derived.LoopIn
import Derived.Maps.OwnIn
import Derived.Maps.AppendAt
import Derived.Test.YtljcekgbidbkbaaShelf
import Derived.WalkKit
import Derived.ProofKit
import Derived.OpenShut
import Derived.JoinedOf
import Derived.Handed
set_option linter.unusedVariables false
set_option maxRecDepth 100000
namespace Go.Proofs.Ytljcekgbidbkbaa.fnPages
open Go.Ab Go.Ab.P
open Go.ChangeShapes Go.WideShapes Go.ChangeAt Go.RowKit
def phiL : List (Nat × Nat) := [(76,4),(441,13),(847,31),(463,22),(557,16),(870,25),(445,15),(564,14),(185,5),(21,26),(23,18),(1024,19),(872,28),(1237,38),(1238,27),(566,17),(184,6),(183,7),(565,21),(182,8),(71,9),(69,10),(181,11),(518,23),(517,24),(138,12),(1280,3)]
def phi (n : Nat) : Nat := (phiL.lookup n).getD 1000000
theorem hm : Try.prog.follows .mixedOrders = true := by kernel_rfl
theorem ok_laws_b10Long : FOk Try.prog phi 76 laws_b10Long_c := fn_ok hm (D := laws_b10Long_D) DOk.nil (by kernel_rfl) _ _ _ _
theorem ok_spec_l00From : FOk Try.prog phi 441 spec_l00From_c := fn_ok hm (D := spec_l00From_D) DOk.nil (by kernel_rfl) _ _ _ _
theorem ok_spec_l00Src_next : FOk Try.prog phi 847 spec_l00Src_next_c := fn_ok hm (D := spec_l00Src_next_D) DOk.nil (by kernel_rfl) _ _ _ _
theorem ok_spec_l00Src_pick : FOk Try.prog phi 463 spec_l00Src_pick_c := fn_ok hm (D := spec_l00Src_pick_D) (DOk.cons ok_spec_l00Src_next DOk.nil) (by kernel_rfl) _ _ _ _
theorem ok_spec_l00Src_text : FOk Try.prog phi 557 spec_l00Src_text_c := fn_ok hm (D := spec_l00Src_text_D) (DOk.cons ok_spec_l00Src_pick DOk.nil) (by kernel_rfl) _ _ _ _
theorem ok_spec_l30DrawWord : FOk Try.prog phi 870 spec_l30DrawWord_c := fn_ok hm (D := spec_l30DrawWord_D) (DOk.cons ok_spec_l00Src_text DOk.nil) (by kernel_rfl) _ _ _ _
theorem ok_spec_l00Src_among : FOk Try.prog phi 445 spec_l00Src_among_c := fn_ok hm (D := spec_l00Src_among_D) (DOk.cons ok_spec_l00Src_pick DOk.nil) (by kernel_rfl) _ _ _ _
theorem ok_spec_l30Draw : FOk Try.prog phi 564 spec_l30Draw_c := fn_ok hm (D := spec_l30Draw_D) (DOk.cons ok_spec_l00Src_among (DOk.cons ok_spec_l00Src_pick (DOk.cons ok_spec_l00Src_text (DOk.cons ok_spec_l30DrawWord DOk.nil)))) (by kernel_rfl) _ _ _ _
theorem ok_spec_DrawPagesOf : FOk Try.prog phi 185 spec_DrawPagesOf_c := fn_ok hm (D := spec_DrawPagesOf_D) (DOk.cons ok_spec_l00From (DOk.cons ok_spec_l00Src_among (DOk.cons ok_spec_l00Src_text (DOk.cons ok_spec_l30Draw DOk.nil)))) (by kernel_rfl) _ _ _ _
theorem ok_impl_few : FOk Try.prog phi 21 impl_few_c := fn_ok hm (D := impl_few_D) DOk.nil (by kernel_rfl) _ _ _ _
theorem ok_impl_within : FOk Try.prog phi 23 impl_within_c := fn_ok hm (D := impl_within_D) DOk.nil (by kernel_rfl) _ _ _ _
theorem ok_impl_isLine : FOk Try.prog phi 1024 impl_isLine_c := fn_ok hm (D := impl_isLine_D) (DOk.cons ok_impl_few (DOk.cons ok_impl_within DOk.nil)) (by kernel_rfl) _ _ _ _
theorem ok_impl_ValidReport_1 : FOk Try.prog phi 872 impl_ValidReport_1_c := fn_ok hm (D := impl_ValidReport_1_D) (DOk.cons ok_impl_isLine DOk.nil) (by kernel_rfl) _ _ _ _
theorem ok_slices_IndexFunc___string_string__impl_ValidReport_1 : FOk Try.prog phi 1237 slices_IndexFunc___string_string__impl_ValidReport_1_c := fn_ok hm (D := slices_IndexFunc___string_string__impl_ValidReport_1_D) (DOk.cons ok_impl_ValidReport_1 DOk.nil) (by kernel_rfl) _ _ _ _
theorem ok_slices_ContainsFunc___string_string__impl_ValidReport_1 : FOk Try.prog phi 1238 slices_ContainsFunc___string_string__impl_ValidReport_1_c := fn_ok hm (D := slices_ContainsFunc___string_string__impl_ValidReport_1_D) (DOk.cons ok_impl_ValidReport_1 (DOk.cons ok_slices_IndexFunc___string_string__impl_ValidReport_1 DOk.nil)) (by kernel_rfl) _ _ _ _
theorem ok_impl_ValidReport : FOk Try.prog phi 566 impl_ValidReport_c := fn_ok hm (D := impl_ValidReport_D) (DOk.cons ok_impl_few (DOk.cons ok_impl_ValidReport_1 (DOk.cons ok_slices_ContainsFunc___string_string__impl_ValidReport_1 DOk.nil))) (by kernel_rfl) _ _ _ _
section
open Go.Proofs
attribute [local go_sem] Oper.semAt_some
theorem pg_up_succ (k : Nat) : List.range (k + 1) = List.range k ++ [k] := List.range_succ
set_option maxHeartbeats 2000000 in
theorem pg_chunk1 (F : Fence) (n : Nat) (h7 : F.fn 29) (hro : F.round = none) (hn : 1 ≤ n) (l Bs Bn n₀ b off len cap m r : Nat) (hlen : len ≤ 1048576) (hm : 1 ≤ m) (hm2 : m ≤ 1048576) (hr : r * m < len + m ∧ len ≤ r * m) (hcap : len ≤ cap) (hbs : Bs ≠ Bn) (J Jx : List Nat → World → Prop) (hJd : ∀ s (W : World),J s W → J s W.drew)
 (hY : ∀ pre x W,J pre W → pre.length < r → YieldAt F (n - 1) Try.prog l #[.slice (some ⟨b,off + x * m,none⟩) (min m (len - x * m)) (min m (len - x * m))] W fun e W' =>
   (e = .returned (.bool true) ∧ J (pre ++ [x]) W' ∧ (W'.heap[Bs]? = W.heap[Bs]? ∧ W'.heap[Bn]? = W.heap[Bn]?)) ∨ (e = .returned (.bool false) ∧ Jx (pre ++ [x]) W'))
 (W : World) (hBs : W.cell? ⟨Bs,0,none⟩ = some (.slice (some ⟨b,off,none⟩) len cap)) (hBn : W.cell? ⟨Bn,0,none⟩ = some (.int .i64 m)) (h0 : J [] W) :
 CallsIn F n Try.prog 29 #[.func (.yield l) #[] #[],.pointer (some ⟨Bs,0,none⟩),.pointer (some ⟨Bn,0,none⟩)] W fun e W' => (∃ v,e = .returned v) ∧
  ((∃ ys,ys = List.range r ∧ J ys W') ∨ (∃ pre,True ∧ Jx pre W')) := by
 refine callsIn_of_wp Try.func29 rfl h7 ?_ hro
 simp only [Try.ntmps29,List.size_toArray,List.length_cons,List.length_nil,Nat.reduceAdd,Nat.reduceSub,Array.replicate_succ,Array.replicate_zero,List.push_toArray,List.append_toArray,List.nil_append,List.cons_append]
 gi_wp2
 gi_loopw [4] (fun i wr => ∃ k : Nat,k ≤ r ∧ i = .int .i64 ((k * m : Nat) : Int) ∧ J (List.range k) wr ∧ wr.cell? ⟨Bs,0,none⟩ = some (.slice (some ⟨b,off,none⟩) len cap) ∧ wr.cell? ⟨Bn,0,none⟩ = some (.int .i64 m))
  (fun i _ => len + m - (intOf i).toNat)
 case atStart => exact ⟨0,Nat.zero_le _,by simp,h0,hBs,hBn⟩
 case round =>
  obtain ⟨k,hk,rfl,hJs,g1,g2⟩ := hrel
  by_cases hlt : k * m < len
  ·have hltz : ((k * m : Nat) : Int) < (len : Int) := by omega
   have hkr : k < r := by
    rcases Nat.lt_or_ge k r with h | h
    ·exact h
    ·have := Nat.mul_le_mul_right m h; omega
   obtain ⟨fn,tmps,assign,body,hy,hR⟩ := hY _ k wr.drew (hJd _ _ hJs) (by rw [List.length_range]; exact hkr)
   have g1' : wr.drew.cell? ⟨Bs,0,none⟩ = some (.slice (some ⟨b,off,none⟩) len cap) := g1
   have g2' : wr.drew.cell? ⟨Bn,0,none⟩ = some (.int .i64 m) := g2
   have hnext : Hid (((k * m : Nat) : Int) + (m : Int) = (((k + 1) * m : Nat) : Int)) := by show _ = _; rw [Nat.succ_mul]; omega
   generalize hq : k * m = q at *
   obtain ⟨d,hd⟩ : ∃ d,min m (len - q) = d := ⟨_,rfl⟩
   rw [hd] at hy
   have hd1 : 1 ≤ d := by omega
   have hd2 : q + d ≤ len := by omega
   have hd3 : d ≤ m := by omega
   have hmin : Hid ((if len - q < m then ((len - q : Nat) : Int) else (m : Int)) = (d : Int)) := by show _ = _; split <;> omega
   have hmin2 : Hid (min (m : Int) ((len - q : Nat) : Int) = (d : Int)) := by show _ = _; omega
   gi_wp2
   gi_region
   all_goals (
    clear hY
    try rw [hmin.out]
    try rw [hmin2.out]
    gi_wp2
    refine hR.mono ?_
    rintro e W3 (⟨rfl,hJ3,hk1,hk2⟩ | ⟨rfl,hJx3⟩)
    ·have g3 : W3.cell? ⟨Bs,0,none⟩ = some (.slice (some ⟨b,off,none⟩) len cap) := by rw [← g1']; simp only [World.cell?,hk1]
     have g4 : W3.cell? ⟨Bn,0,none⟩ = some (.int .i64 m) := by rw [← g2']; simp only [World.cell?,hk2]
     gi_wp2
     go_roundw
     case rel => exact ⟨k + 1,hkr,by rw [hnext.out],by rw [pg_up_succ]; exact hJ3,g3,g4⟩
     case measure => simp only [intOf]; omega
    ·gi_wp2
     refine bodyPost_ret (results_none rfl _ _ _) rfl ?_
     exact ⟨⟨_,rfl⟩,.inr ⟨_,trivial,hJx3⟩⟩)
  ·have hltz : ¬ ((k * m : Nat) : Int) < (len : Int) := by omega
   obtain rfl : k = r := by
    rcases Nat.lt_or_ge k r with h | h
    ·have := Nat.mul_le_mul_right m (show k + 1 ≤ r from h)
     rw [Nat.succ_mul] at this; omega
    ·omega
   gi_wp2
   go_end0
   exact ⟨⟨_,rfl⟩,.inl hJs⟩
set_option maxHeartbeats 1000000 in
theorem pg_chunk1_nil (F : Fence) (n : Nat) (h7 : F.fn 29) (hro : F.round = none) (l Bs Bn : Nat) (ad : Option Addr) (cp : Nat) (J : List Nat → World → Prop) (W : World) (hBs : W.cell? ⟨Bs,0,none⟩ = some (.slice ad 0 cp)) (h0 : J [] W) :
 CallsIn F n Try.prog 29 #[.func (.yield l) #[] #[],.pointer (some ⟨Bs,0,none⟩),.pointer (some ⟨Bn,0,none⟩)] W fun e W' => (∃ v,e = .returned v) ∧ J [] W' := by
 refine callsIn_of_wp Try.func29 rfl h7 ?_ hro
 simp only [Try.ntmps29,List.size_toArray,List.length_cons,List.length_nil,Nat.reduceAdd,Nat.reduceSub,Array.replicate_succ,Array.replicate_zero,List.push_toArray,List.append_toArray,List.nil_append,List.cons_append]
 gi_wp2
 gi_loopw [4] (fun i wr => i = .int .i64 0 ∧ J [] wr ∧ wr.cell? ⟨Bs,0,none⟩ = some (.slice ad 0 cp)) (fun _ _ => 0)
 case atStart => exact ⟨rfl,h0,hBs⟩
 case round =>
  obtain ⟨rfl,hJs,g1⟩ := hrel
  gi_wp2
  go_end0
  exact ⟨⟨_,rfl⟩,hJs⟩
set_option maxHeartbeats 1000000 in
theorem pg_chunk (F : Fence) (n : Nat) (h5 : F.fn 20) (hro : F.round = none) (a : Option Addr) (len cap m : Nat) (hm : 1 ≤ m) (hm2 : m ≤ 1048576) (w : World) :
 CallsIn F n Try.prog 20 #[.slice a len cap,.int .i64 m] w fun e w' => e = .returned (.func (.func 29) #[] #[.pointer (some ⟨w.heap.size,0,none⟩),.pointer (some ⟨w.heap.size + 1,0,none⟩)]) ∧ w' = (w.alloc (.cells #[.slice a len cap] 24)).alloc (.cells #[.int .i64 m] 3) := by
 refine callsIn_of_wp Try.func20 rfl h5 ?_ hro
 simp only [Try.ntmps20,List.size_toArray,List.length_cons,List.length_nil,Nat.reduceAdd,Nat.reduceSub,Array.replicate_succ,Array.replicate_zero,List.push_toArray,List.append_toArray,List.nil_append,List.cons_append]
 have h1 : ¬ (m : Int) < 1 := by omega
 gi_wp2
 go_ret
 exact ⟨rfl,rfl⟩
def pgKp (n₀ Bs Bn : Nat) (A B : World) : Prop := Below n₀ A B ∧ B.heap[Bs]? = A.heap[Bs]? ∧ B.heap[Bn]? = A.heap[Bn]?
theorem pg_stops (F : Fence) (n : Nat) (h7 : F.fn 29) (hro : F.round = none) (hn : 1 ≤ n) (Bs Bn n₀ : Nat) (ad : Option Addr) (len cap m : Nat) (hlen : len ≤ 1048576) (hm : 1 ≤ m) (hm2 : m ≤ 1048576) (hcap : len ≤ cap) (had : len = 0 ∨ ∃ b off,ad = some ⟨b,off,none⟩)
 (w : World) (hs : Bs < w.heap.size) (hsn : Bn < w.heap.size) (hne : Bs ≠ Bn) (g1 : w.cell? ⟨Bs,0,none⟩ = some (.slice ad len cap)) (g2 : w.cell? ⟨Bn,0,none⟩ = some (.int .i64 m)) :
 SeqStopsK F n Try.prog 29 #[.pointer (some ⟨Bs,0,none⟩),.pointer (some ⟨Bn,0,none⟩)] (fun x : Nat => #[Value.slice (ad.map fun a => ⟨a.block,a.off + x * m,none⟩) (min m (len - x * m)) (min m (len - x * m))]) (pgKp n₀ Bs Bn) (fun ys => ys = List.range (pgR len m)) (fun _ => True) (pgR len m) w := fun l J Jx W hW hJ _ hY h0 => by
 have c1 := (hW.cell (p := ⟨Bs,0,none⟩) hs).trans g1
 have c2 := (hW.cell (p := ⟨Bn,0,none⟩) hsn).trans g2
 rcases had with rfl | ⟨b,off,rfl⟩
 ·have hr : pgR 0 m = 0 := by have := pgR_le (len := 0) hm; omega
  rw [hr]
  exact (pg_chunk1_nil F n h7 hro l Bs Bn ad cap J W c1 h0).mono fun e W' ⟨he,hj⟩ => ⟨he,.inl ⟨_,rfl,hj⟩⟩
 ·refine (pg_chunk1 F n h7 hro hn l Bs Bn n₀ b off len cap m (pgR len m) hlen hm hm2 (pgR_ok hm) hcap hne J Jx (fun s W hs => hJ s W W.drew none hs ⟨rfl,rfl,rfl,Nat.le_refl _,fun _ _ _ => rfl⟩ (fun r e => by cases e)) (fun pre x W1 hj hp => (hY pre x W1 hj hp).mono ?_) W c1 c2 h0).mono ?_
  ·rintro e W' (⟨q1,q2,q3⟩ | ⟨q1,q2⟩)
   ·exact .inl ⟨q1,q2,q3.2⟩
   ·exact .inr ⟨q1,q2⟩
  ·rintro e W' ⟨he,⟨ys,rfl,hj⟩ | ⟨pre,_,hj⟩⟩
   ·exact ⟨he,.inl ⟨_,rfl,hj⟩⟩
   ·exact ⟨he,.inr ⟨_,trivial,hj⟩⟩
theorem pg_infoS : (Try.prog.info? 24).map (fun i => (i.zero,i.size,i.bytes)) = some (some (.slice none 0 0),1,24) := by kernel_rfl
theorem pg_infoE : (Try.prog.info? 9).map (fun i => (i.zero,i.size,i.bytes)) = some (some (.string ⟨#[]⟩),1,16) := by kernel_rfl
def appSem (ts : Array TypeId) (ty : TypeId) (args : Array Value) : Sem Value := Builtin.append_ ts ty args
theorem appSem_eq (ts : Array TypeId) (ty : TypeId) (args : Array Value) : Builtin.append_ ts ty args = appSem ts ty args := rfl
attribute [local go_sem ↓] appSem_eq
theorem pg_row_own {X Y : World} {row : Option Nat} {base size k : Nat} {e : TypeId} {v : Value} {xs : List Value} (hr : X.ownsRow base e size v k xs) (hg : X.grownBy Y row) (hrow : ∀ r,row = some r → ∃ o : Obj,X.heap[r]? = some o ∧ o.isCells = false) : Y.ownsRow base e size v k xs := by
 refine hr.kept hg ?_
 rcases hr.2 with ⟨rfl,_⟩ | ⟨g,cap,cur,rfl,_,hgb,_⟩
 ·exact .inl rfl
 ·refine .inr fun e' => ?_
  obtain ⟨o,ho,hc⟩ := hrow g (by simpa [Value.ownBlock] using e'.symm)
  rw [hgb] at ho; cases ho; cases hc
theorem pg_mono {w : World} {base base' : Nat} {e : TypeId} {size : Nat} {v : Value} {n : Nat} {xs : List Value} (h : w.ownsRow base e size v n xs) (hb : base' ≤ base) : w.ownsRow base' e size v n xs :=
 ⟨h.1,h.2.imp id fun ⟨g,cap,cur,e1,e2,e3⟩ => ⟨g,cap,cur,e1,Nat.le_trans hb e2,e3⟩⟩
structure PgI (n₀ Bp Bs Bn m : Nat) (hd : List UInt8) (xs : List (List UInt8)) (w3 : World) (pre : List Nat) (W : World) : Prop where
 below : Below n₀ w3 W
 size : n₀ + 4 ≤ W.heap.size
 ex : ∃ v vs,Boxed W Bp 27 v ∧ W.ownsRow n₀ 24 1 v pre.length vs ∧ pgRows 9 hd xs m n₀ v vs pre W ∧ v.ownBlock ≠ some Bs ∧ v.ownBlock ≠ some Bn
theorem PgI.own {n₀ Bp Bs Bn m B0 : Nat} {hd : List UInt8} {xs : List (List UInt8)} {w3 : World} (h0 : n₀ ≤ B0) (h1 : n₀ ≤ w3.heap.size) : OwnFrom B0 (PgI n₀ Bp Bs Bn m hd xs w3) := fun s X Y row hs hg hr => by
 have hc : ∀ r,row = some r → ∃ o : Obj,X.heap[r]? = some o ∧ o.isCells = false := fun r e => (hr r e).2
 refine ⟨hs.below.trans ((Below.refl n₀ X).grown hg (by have := hs.below.size; omega) fun k e => by have := (hr k e).1; omega),Nat.le_trans hs.size hg.size,?_⟩
 obtain ⟨v,vs,q1,q2,q3,q4⟩ := hs.ex
 refine ⟨v,vs,q1.kept hg (fun e' => ?_),pg_row_own q2 hg hc,⟨q3.1,fun j hj => ?_⟩,q4⟩
 ·obtain ⟨o,ho,hc⟩ := hc Bp e'.symm
  rw [show X.heap[Bp]? = _ from q1] at ho; cases ho; cases hc
 ·obtain ⟨u,u1,u2,u3⟩ := q3.2 j hj
  exact ⟨u,u1,pg_row_own u2 hg hc,u3⟩
set_option maxHeartbeats 4000000 in
theorem pg_main (ad : Option Addr) (cap : Nat) (xs : List (List UInt8)) (h : Int) (hd : List UInt8) (vb wb ib : Bool) (w : World) (hcap : xs.length ≤ cap)
 (had : xs.length = 0 ∨ ∃ b off,ad = some ⟨b,off,none⟩ ∧ b < w.heap.size ∧ Cells w b off (xs.map encS))
 (hv : ∀ W,Lo w.heap.size w W → Calls Try.prog 17 #[.slice ad xs.length cap] W fun e W' => e = .returned (.bool vb) ∧ Lo W.heap.size W W')
 (hw : vb = true → ∀ W,Lo w.heap.size w W → Calls Try.prog 18 #[.int .i64 h,.int .i64 2,.int .i64 200] W fun e W' => e = .returned (.bool wb) ∧ Lo W.heap.size W W')
 (hi : vb = true → wb = true → ∀ W,Lo w.heap.size w W → Calls Try.prog 19 #[encS hd] W fun e W' => e = .returned (.bool ib) ∧ Lo W.heap.size W W')
 (hok : vb = true → wb = true → ib = true → 2 ≤ h ∧ h ≤ 200 ∧ xs.length ≤ 1048576) :
 Calls Try.prog 6 #[.slice ad xs.length cap,.int .i64 h,encS hd] w fun e w' => Lo w.heap.size w w' ∧
  if vb then (if wb && ib then ∃ v vs,e = .returned (.tuple #[v,.int .i64 0]) ∧ w'.ownsRow w.heap.size 24 1 v (pgR xs.length (h.toNat - 1)) vs ∧ pgRows 9 hd xs (h.toNat - 1) w.heap.size v vs (List.range (pgR xs.length (h.toNat - 1))) w'
   else e = .returned (.tuple #[.slice none 0 0,.int .i64 2])) else e = .returned (.tuple #[.slice none 0 0,.int .i64 1]) := by
 refine (callsIn_wide (n := 3)).1 ?_
 refine callsIn_of_wp_marks Try.func6 rfl trivial ?_ rfl
 simp only [Try.ntmps6,List.size_toArray,List.length_cons,List.length_nil,Nat.reduceAdd,Nat.reduceSub,Array.replicate_succ,Array.replicate_zero,List.push_toArray,List.append_toArray,List.nil_append,List.cons_append]
 have L0 : Lo w.heap.size w (w.alloc (.cells #[encS hd] 9)) := (Lo.refl _ w).alloc (Nat.le_refl _) _
 have hb0 : (w.alloc (.cells #[encS hd] 9)).heap[w.heap.size]? = some (.cells #[encS hd] 9) := get_new _ _ rfl
 have hz0 : (w.alloc (.cells #[encS hd] 9)).heap.size = w.heap.size + 1 := by simp
 have a1 : ∀ W,Lo (w.heap.size + 1) (w.alloc (.cells #[encS hd] 9)) W → Lo w.heap.size w W := fun W hW => L0.trans (hW.mono (by omega))
 have a2 : ∀ W,Lo (w.heap.size + 1) (w.alloc (.cells #[encS hd] 9)) W → W.cell? ⟨w.heap.size,0,none⟩ = some (encS hd) := fun W hW => by simp only [World.cell?,hW.block w.heap.size (by omega),hb0]; rfl
 have hv' : Calls Try.prog 17 #[.slice ad xs.length cap] (w.alloc (.cells #[encS hd] 9)) fun e W' => e = .returned (.bool vb) ∧ Lo (w.heap.size + 1) (w.alloc (.cells #[encS hd] 9)) W' := by rw [← hz0]; exact hv _ L0
 clear hv
 cases vb
 ·gi_wp2_with (refine ⟨trivial,?_⟩; gi_at_call 17; refine (callsIn_wide.2 hv').mono ?_; rintro e w1 ⟨rfl,L1⟩)
  exact ⟨_,results_tmp2 rfl _ _ _,a1 _ L1,rfl⟩
 replace hw := hw rfl
 cases wb
 ·gi_wp2_with (first | (refine ⟨trivial,?_⟩; gi_at_call 17; refine (callsIn_wide.2 hv').mono ?_; clear hv'; rintro e w1 ⟨rfl,L1⟩) | (refine ⟨trivial,?_⟩; gi_at_call 18; refine (callsIn_wide.2 (hw _ (a1 _ L1))).mono ?_; rintro e w2 ⟨rfl,L2⟩))
  refine ⟨trivial,?_⟩
  gi_wp2
  exact ⟨_,results_tmp2 rfl _ _ _,(a1 _ L1).trans (L2.mono (by have := L1.size; omega)),rfl⟩
 replace hi := hi rfl rfl
 cases ib
 ·gi_wp2_with (first | (refine ⟨trivial,?_⟩; gi_at_call 17; refine (callsIn_wide.2 hv').mono ?_; clear hv'; rintro e w1 ⟨rfl,L1⟩) | (refine ⟨trivial,?_⟩; gi_at_call 18; refine (callsIn_wide.2 (hw _ (a1 _ L1))).mono ?_; clear hw; rintro e w2 ⟨rfl,L2⟩; have L3 := L1.trans (L2.mono (by have := L1.size; omega)); have c2 := a2 _ L3) | (refine ⟨trivial,?_⟩; gi_at_call 19; refine (callsIn_wide.2 (hi _ (a1 _ L3))).mono ?_; rintro e w3 ⟨rfl,L4⟩))
  exact ⟨_,results_tmp2 rfl _ _ _,(a1 _ L3).trans (L4.mono (by have := L3.size; omega)),rfl⟩
 obtain ⟨hh1,hh2,hlen⟩ := hok rfl rfl rfl
 obtain ⟨m,hm⟩ : ∃ m : Nat,h = (m : Int) + 1 := ⟨(h - 1).toNat,by omega⟩
 subst hm
 have hmm : (((m : Int) + 1).toNat - 1) = m := by omega
 rw [hmm]
 have hm1 : 1 ≤ m := by omega
 have hm2 : m ≤ 199 := by omega
 clear hok hmm
 gi_wp2_with (first | (refine ⟨trivial,?_⟩; gi_at_call 17; refine (callsIn_wide.2 hv').mono ?_; clear hv'; rintro e w1 ⟨rfl,L1⟩) | (refine ⟨trivial,?_⟩; gi_at_call 18; refine (callsIn_wide.2 (hw _ (a1 _ L1))).mono ?_; clear hw; rintro e w2 ⟨rfl,L2⟩; have L3 := L1.trans (L2.mono (by have := L1.size; omega)); have c2 := a2 _ L3) | (refine ⟨trivial,?_⟩; gi_at_call 19; refine (callsIn_wide.2 (hi _ (a1 _ L3))).mono ?_; clear hi; rintro e w3 ⟨rfl,L4⟩; replace L4 := L3.trans (L4.mono (by have := L3.size; omega))) | (refine ⟨trivial,?_⟩; gi_at_call 20; refine (pg_chunk Fence.wide 2 trivial rfl ad xs.length cap m hm1 (by omega) _).mono ?_; rintro e w4 ⟨rfl,rfl⟩))
 have hs3 := L4.size
 rw [hz0] at hs3
 obtain ⟨n₀,hn₀⟩ : ∃ n₀,n₀ = w3.heap.size := ⟨_,rfl⟩
 rw [← hn₀] at hs3 ⊢
 have hn1 : n₀ ≤ w3.heap.size := by omega
 have hn2 : w3.heap.size ≤ n₀ := by omega
 clear hn₀
 obtain ⟨W0,hW0⟩ : ∃ W0,W0 = ((((w3.alloc (.cells #[] 24)).alloc (.cells #[.slice (some ⟨n₀,0,none⟩) 0 0] 27)).alloc (.cells #[.slice ad xs.length cap] 24)).alloc (.cells #[.int .i64 (m : Int)] 3)) := ⟨_,rfl⟩
 rw [← hW0]
 have hz1 : ∀ (u : World) (o : Obj),(u.alloc o).heap.size = u.heap.size + 1 := fun u o => by simp
 have hs0 : W0.heap.size = n₀ + 4 := by rw [hW0]; simp only [hz1]; omega
 have B0 : Below n₀ w3 W0 := by
  rw [hW0]
  exact ((((Below.refl _ w3).alloc (by omega) _).alloc (by simp only [hz1]; omega) _).alloc (by simp only [hz1]; omega) _).alloc (by simp only [hz1]; omega) _
 have k0 : W0.heap[n₀]? = some (.cells #[] 24) := by
  rw [hW0,get_old _ _ (by simp only [hz1]; omega),get_old _ _ (by simp only [hz1]; omega),get_old _ _ (by simp only [hz1]; omega),get_new _ _ (by omega)]
 have k1 : W0.heap[n₀ + 1]? = some (.cells #[.slice (some ⟨n₀,0,none⟩) 0 0] 27) := by
  rw [hW0,get_old _ _ (by simp only [hz1]; omega),get_old _ _ (by simp only [hz1]; omega),get_new _ _ (by simp only [hz1]; omega)]
 have k2 : W0.heap[n₀ + 2]? = some (.cells #[.slice ad xs.length cap] 24) := by
  rw [hW0,get_old _ _ (by simp only [hz1]; omega),get_new _ _ (by simp only [hz1]; omega)]
 have k3 : W0.heap[n₀ + 3]? = some (.cells #[.int .i64 (m : Int)] 3) := by
  rw [hW0,get_new _ _ (by simp only [hz1]; omega)]
 clear hW0
 have hI0 : PgI n₀ (n₀ + 1) (n₀ + 2) (n₀ + 3) m hd xs w3 [] W0 := ⟨B0,by omega,.slice (some ⟨n₀,0,none⟩) 0 0,[],k1,⟨rfl,.inr ⟨n₀,0,#[],rfl,Nat.le_refl _,k0,Nat.le_refl _,by decide,rfl,rfl⟩⟩,⟨rfl,fun j hj => by cases hj⟩,by simp [Value.ownBlock],by simp [Value.ownBlock]⟩
 have hhd : ∀ W,Below n₀ w3 W → W.cell? ⟨w.heap.size,0,none⟩ = some (encS hd) := fun W hW => (hW.cell (p := ⟨w.heap.size,0,none⟩) (by show w.heap.size < n₀; omega)).trans (a2 _ L4)
 refine wpIn_rangeFunc_ownG rfl (by decide) (gf := 29) (lb := #[.pointer (some ⟨n₀ + 2,0,none⟩),.pointer (some ⟨n₀ + 3,0,none⟩)]) rfl trivial (enters_of Try.func29 (by kernel_rfl) rfl)
  (pg_stops Fence.wide 2 trivial rfl (by decide) (n₀ + 2) (n₀ + 3) n₀ ad xs.length cap m hlen hm1 (by omega) hcap (had.imp id fun ⟨b,off,e,_⟩ => ⟨b,off,e⟩) W0 (by omega) (by omega) (by omega) (by simp only [World.cell?,k2]; rfl) (by simp only [World.cell?,k3]; rfl))
  (fun h1 h2 => ⟨h1.1.trans h2.1,h2.2.1.trans h1.2.1,h2.2.2.trans h1.2.2⟩) (fun W l o o' hl ho hc _ => ⟨(Below.refl n₀ W).grown (grownBy_putObj' W l o') (by have := (Array.getElem?_eq_some_iff.1 ho).1; omega) (fun k e => by cases e; omega),World.putObj_heap_other (by omega),World.putObj_heap_other (by omega)⟩) (Below.refl _ _) (fun _ => rfl)
  (PgI n₀ (n₀ + 1) (n₀ + 2) (n₀ + 3) m hd xs w3) (fun _ _ _ => False) (PgI.own (by omega) (by omega)) (fun _ _ _ _ _ hs _ _ => hs) hI0
  (fun x => { tmps := #[.slice ad xs.length cap,.int .i64 ((m : Int) + 1),encS hd,undef,undef,.pointer (some ⟨w.heap.size,0,none⟩),.slice none 0 0,.int .i64 0,.pointer (some ⟨n₀ + 1,0,none⟩),.slice (ad.map fun a => ⟨a.block,a.off + x * m,none⟩) (min m (xs.length - x * m)) (min m (xs.length - x * m)),.slice ad xs.length cap,.bool true,.bool false,.int .i64 ((m : Int) + 1),.bool true,.bool false,.bool false,encS hd,.bool true,.bool false,.bool false,.slice (some ⟨n₀,0,none⟩) 0 0,.slice ad xs.length cap,.int .i64 ((m : Int) + 1),.int .i64 m,.func (.func 29) #[] #[.pointer (some ⟨n₀ + 2,0,none⟩),.pointer (some ⟨n₀ + 3,0,none⟩)],.slice (ad.map fun a => ⟨a.block,a.off + x * m,none⟩) (min m (xs.length - x * m)) (min m (xs.length - x * m)),undef,undef,undef,undef,undef,undef,undef,undef],defers := [] }) ?assign ?body ?done ?stop
 case assign =>
  intro l x W K hK
  gi_wp2
  exact hK
 case stop =>
  rintro D c pre W _ _ h _
  exact h.elim
 case done =>
  rintro D ys W hD rfl hI hK
  obtain ⟨v,vs,q1,q2,q3,q4⟩ := hI.ex
  have hc := q1.cell
  have hB := hI.below
  have hz := hI.size
  have hDn : n₀ ≤ D := by omega
  have BD : Below n₀ W (W.putObj D (.deferred none)) := (Below.refl n₀ W).grown (grownBy_putObj' W D _) (by omega) (fun k e => by cases e; exact hDn)
  have LF : Lo w.heap.size w (W.putObj D (.deferred none)) := (a1 _ L4).trans ((Lo.of_below (hB.trans BD)).mono (by omega))
  have kR : (W.putObj D (.deferred none)).ownsRow w.heap.size 24 1 v (pgR xs.length m) vs := by
   have := pg_mono (ownsRow_putObj q2 (.deferred none) hK rfl) (show w.heap.size ≤ n₀ by omega)
   rw [List.length_range] at this; exact this
  have kP : pgRows 9 hd xs m w.heap.size v vs (List.range (pgR xs.length m)) (W.putObj D (.deferred none)) := ⟨q3.1,fun j hj => by
   obtain ⟨u,u1,u2,u3⟩ := q3.2 j hj
   exact ⟨u,u1,pg_mono (ownsRow_putObj u2 (.deferred none) hK rfl) (by omega),u3⟩⟩
  clear a1 a2 hhd hI0
  gi_wp2
  refine ⟨by simp,.inl ⟨_,_,rfl,run_takeDeferred hK,?_⟩⟩
  exact ⟨_,results_tmp2 rfl _ _ _,LF,v,rfl,vs,kR,kP⟩
 case body =>
  rintro l pre x W hI hlt
  obtain ⟨v,vs,q1,q2,q3,q4⟩ := hI.ex
  have hc := q1.cell
  have hB := hI.below
  have hh := hhd W hB
  have hpl : pre.length < 1048576 := by have := pgR_le (len := xs.length) hm1; omega
  rcases had with h0 | ⟨b,off,rfl,hb,hC⟩
  ·have := pgR_le (len := xs.length) hm1; omega
  obtain ⟨iE,hiE,heE⟩ := Option.map_eq_some_iff.1 pg_infoE
  simp only [Prod.mk.injEq] at heE
  obtain ⟨hE0,hE1,hE2⟩ := heE
  obtain ⟨iS,hiS,heS⟩ := Option.map_eq_some_iff.1 pg_infoS
  simp only [Prod.mk.injEq] at heS
  obtain ⟨hS0,hS1,hS2⟩ := heS
  have hWs : W0.heap.size ≤ W.heap.size ∨ n₀ ≤ W.heap.size := .inr (by have := hB.size; omega)
  have hBp : n₀ + 1 < W.heap.size := q1.lt
  have hSh : w.heap.size < W.heap.size := by omega
  obtain ⟨news,hnews⟩ : ∃ news : List Value,Hid (news = ((xs.drop (x * m)).take m).map encS) := ⟨_,rfl⟩
  obtain ⟨d,hd0⟩ : ∃ d,min m (xs.length - x * m) = d := ⟨_,rfl⟩
  have hnl : news.length = d * 1 := by rw [hnews.out,List.length_map,List.length_take,List.length_drop,← hd0,Nat.mul_one]
  have hdm : d ≤ 199 := by omega
  have hncell : ∀ j u,news[j]? = some u → W.cell? ((⟨b,off + x * m,none⟩ : Addr).add j) = some u := fun j u hj => by
   rw [World.cell?_add]
   have hj2 : (xs.map encS)[x * m + j]? = some u := by
    rw [hnews.out,List.map_take,List.getElem?_take] at hj
    split at hj
    ·rw [List.map_drop,List.getElem?_drop] at hj; exact hj
    ·cases hj
   have h1 := hC (x * m + j) u hj2
   have h2 : W.heap[b]? = w.heap[b]? := (hB.block b (by omega)).trans ((L4.block b (by omega)).trans (L0.block b hb))
   rw [← h1]
   simp only [World.cell?,h2,Nat.add_assoc]
  have hn1c : ∀ u ∈ news,u.oneCell' = true := fun u hu => by
   rw [hnews.out] at hu
   obtain ⟨y,_,rfl⟩ := List.mem_map.1 hu; rfl
  have hvlt := q2.lt
  have hmx : maxLen = 9223372036854775807 := rfl
  obtain ⟨X1,hX1⟩ : ∃ X1,Hid (X1 = (W.alloc (.cells #[encS hd] 9)).drew) := ⟨_,rfl⟩
  have hX1s : X1.heap.size = W.heap.size + 1 := by rw [hX1.out]; simp [World.drew]
  obtain ⟨v1,w1',hA,r1,g1,_,o1⟩ := run_append_own_at (P := Try.prog) X1 n₀ 24 24 9 iE (.string ⟨#[]⟩) 1 16 Try.underlying24 hiE hE0 hE1 hE2 rfl (by decide) (.slice (some ⟨W.heap.size,0,none⟩) 1 1) 1 [encS hd] (by rw [hX1.out]; exact (World.ownsRow_lit W #[encS hd] 1 (by have := hB.size; omega) (by decide) rfl)) ⟨b,off + x * m,none⟩ d d news hnl (fun j u hj => by rw [hX1.out]; exact (show (W.alloc (.cells #[encS hd] 9)).cell? _ = some u from by rw [World.cell?_add,cell_old _ _ _ _ (by omega),← World.cell?_add]; exact hncell j u hj)) hn1c (by omega) (by omega) (by have := hB.size; omega)
  have hA' : (appSem #[24,24] 24 #[.slice (some ⟨W.heap.size,0,none⟩) 1 1,.slice (some ⟨b,off + x * m,none⟩) d d]).run Try.prog (W.alloc (.cells #[encS hd] 9)).drew = .ok v1 w1' := by rw [← hX1.out]; exact hA
  rw [Nat.add_comm 1 d] at r1
  obtain ⟨g,cp1,rfl⟩ := ownsRow_succ r1
  have hg1 : X1.grownBy w1' (some W.heap.size) := g1
  have hw1s : W.heap.size + 1 ≤ w1'.heap.size := by have := hg1.size; omega
  have hvne : v.ownBlock ≠ some W.heap.size := fun e => by have := (hvlt _ e).2; omega
  have q2a : X1.ownsRow n₀ 24 1 v pre.length vs := by rw [hX1.out]; exact q2.alloc _
  have q2b : w1'.ownsRow n₀ 24 1 v pre.length vs := q2a.kept hg1 (.inr hvne)
  have q1a : Boxed X1 (n₀ + 1) 27 v := by rw [hX1.out]; exact q1.alloc _
  have q1b : Boxed w1' (n₀ + 1) 27 v := q1a.kept hg1 (by intro e; have := Option.some.inj e; omega)
  obtain ⟨X2,hX2⟩ : ∃ X2,Hid (X2 = w1'.alloc (.cells #[.slice (some ⟨g,0,none⟩) (d + 1) cp1] 24)) := ⟨_,rfl⟩
  have hX2s : X2.heap.size = w1'.heap.size + 1 := by rw [hX2.out]; simp
  have q2c : X2.ownsRow n₀ 24 1 v pre.length vs := by rw [hX2.out]; exact q2b.alloc _
  have q1c : Boxed X2 (n₀ + 1) 27 v := by rw [hX2.out]; exact q1b.alloc _
  obtain ⟨v2,w2',hBr,r2,g2,_,o2⟩ := run_append_own_at (P := Try.prog) X2 n₀ 27 27 24 iS (.slice none 0 0) 1 24 Try.underlying27 hiS hS0 hS1 hS2 rfl (by decide) v pre.length vs q2c ⟨w1'.heap.size,0,none⟩ 1 1 [.slice (some ⟨g,0,none⟩) (d + 1) cp1] rfl (by rw [hX2.out]; exact cell_one_new _ _ _) (by simp [Value.oneCell']) (by omega) (by omega) (by have := hB.size; omega)
  have hB' : (appSem #[27,27] 27 #[v,.slice (some ⟨w1'.heap.size,0,none⟩) 1 1]).run Try.prog (w1'.alloc (.cells #[.slice (some ⟨g,0,none⟩) (d + 1) cp1] 24)) = .ok v2 w2' := by rw [← hX2.out]; exact hBr
  obtain ⟨gp,cp2,rfl⟩ := ownsRow_succ r2
  have q1d : Boxed w2' (n₀ + 1) 27 v := q1c.kept g2 (q1c.not_row (by decide) q2c)
  have hBp1 : n₀ + 1 < w1'.heap.size := by omega
  have hc1 := q1b.cell
  have hc2 := q1d.cell
  have hf2 := q1d.frozen
  have hsz := hI.size
  have hrowx : (pgRow hd xs m x).map encS = [encS hd] ++ news := by rw [hnews.out]; rfl
  have hrowl : (pgRow hd xs m x).length = d + 1 := by
   have := congrArg List.length hrowx
   rw [List.length_map,List.length_append,hnl] at this
   simp only [List.length_cons,List.length_nil] at this
   omega
  obtain ⟨v1,hv1⟩ : ∃ v1 : Value,v1 = .slice (some ⟨g,0,none⟩) (d + 1) cp1 := ⟨_,rfl⟩
  obtain ⟨v2,hv2⟩ : ∃ v2 : Value,v2 = .slice (some ⟨gp,0,none⟩) (pre.length + 1) cp2 := ⟨_,rfl⟩
  have hfin : KeepsFrom W0.heap.size W (w2'.setCell ⟨n₀ + 1,0,none⟩ v2) ∧ pgKp n₀ (n₀ + 2) (n₀ + 3) W (w2'.setCell ⟨n₀ + 1,0,none⟩ v2) ∧ PgI n₀ (n₀ + 1) (n₀ + 2) (n₀ + 3) m hd xs w3 (pre ++ [x]) (w2'.setCell ⟨n₀ + 1,0,none⟩ v2) := by
   rw [← hv1] at r1 o1
   rw [← hv2] at r2 o2
   have o1' : v1.ownBlock = some W.heap.size ∨ v1.ownBlock = some X1.heap.size := o1
   have hs2 := g2.size
   have KX1 : KeepsOthers W X1 := by rw [hX1.out]; exact (KeepsOthers.alloc W _).trans (KeepsOthers.drew _)
   have KX2 : KeepsOthers w1' X2 := by rw [hX2.out]; exact KeepsOthers.alloc _ _
   have cellOf : ∀ {X : World} {u : Value} {k : Nat} {e : TypeId} {l : List Value},X.ownsRow n₀ e 1 u k l → ∀ (j : Nat) (o : Obj),u.ownBlock = some j → X.heap[j]? = some o → o.isCells = true := fun hr j o ej hj => by
    rcases hr.2 with ⟨rfl,_⟩ | ⟨q,cap,cur,rfl,_,hgb,_⟩
    ·simp [Value.ownBlock] at ej
    ·obtain rfl : q = j := by simpa [Value.ownBlock] using ej
     rw [hgb] at hj; cases hj; rfl
   have hlit : X1.ownsRow n₀ 9 1 (.slice (some ⟨W.heap.size,0,none⟩) 1 1) 1 [encS hd] := by rw [hX1.out]; exact World.ownsRow_lit W #[encS hd] 1 (by omega) (by decide) rfl
   have KO : KeepsOthers W (w2'.setCell ⟨n₀ + 1,0,none⟩ v2) := ((KX1.trans (KeepsOthers.of_grownBy hg1 fun j o ej hj => cellOf hlit j o ej hj)).trans (KX2.trans (KeepsOthers.of_grownBy g2 fun j o ej hj => cellOf q2c j o ej hj))).trans (KeepsOthers.setCell _ _ _)
   have BX1 : ∀ n,n ≤ W.heap.size → Below n W X1 := fun n hn => by rw [hX1.out]; exact ((Below.refl n W).alloc hn _).drew
   have BX2 : ∀ n,n ≤ w1'.heap.size → Below n w1' X2 := fun n hn => by rw [hX2.out]; exact (Below.refl n w1').alloc hn _
   have BB : Below n₀ W (w2'.setCell ⟨n₀ + 1,0,none⟩ v2) := ((((BX1 n₀ (by omega)).trans ((Below.refl n₀ X1).grown hg1 (by omega) fun k e => by cases e; omega)).trans ((BX2 n₀ (by omega)).trans ((Below.refl n₀ X2).grown g2 (by omega) fun k e => (hvlt k (by first | exact e | exact e.symm)).1)))).setCell (p := ⟨n₀ + 1,0,none⟩) (by show n₀ ≤ n₀ + 1; omega) _
   have blk : ∀ q,q < W.heap.size → v.ownBlock ≠ some q → q ≠ n₀ + 1 → (w2'.setCell ⟨n₀ + 1,0,none⟩ v2).heap[q]? = W.heap[q]? := fun q hq hne hn => by
    rw [setCell_block _ _ _ _ _ hn,g2.block q (by omega) (fun e => hne e.symm),hX2.out,get_old _ _ (by omega),hg1.block q (by omega) (fun e => by have := Option.some.inj e; omega),hX1.out]
    exact get_old _ _ hq
   refine ⟨KO.from _,⟨BB,blk _ (by omega) q4.1 (by omega),blk _ (by omega) q4.2 (by omega)⟩,⟨hB.trans BB,by rw [setCell_size]; omega,v2,vs ++ [v1],?_,?_,⟨?_,fun j hj => ?_⟩,?_,?_⟩⟩
   ·exact q1d.set v2
   ·rw [List.length_append,List.length_singleton]
    rw [← hv1] at r2
    exact r2.kept (grownBy_setCell' w2' (n₀ + 1) v2) (.inr (q1d.not_row (by decide) r2).symm)
   ·rw [List.length_append,List.length_append,q3.1,List.length_singleton,List.length_singleton]
   ·rw [List.length_append,List.length_singleton] at hj
    rcases Nat.lt_or_ge j pre.length with hjl | hjl
    ·obtain ⟨u,u1,u2,u3,u4⟩ := q3.2 j hjl
     have hult := u2.lt
     refine ⟨u,by rw [List.getElem?_append_left (by rw [q3.1]; exact hjl)]; exact u1,?_,u3,fun e => ?_⟩
     ·rw [List.getElem_append_left hjl]
      have k1 : X1.ownsRow n₀ 9 1 u (pgRow hd xs m pre[j]).length ((pgRow hd xs m pre[j]).map encS) := by rw [hX1.out]; exact u2.alloc _
      have k2 := k1.kept hg1 (.inr fun e => by have := (hult _ e).2; omega)
      have k3 : X2.ownsRow n₀ 9 1 u (pgRow hd xs m pre[j]).length ((pgRow hd xs m pre[j]).map encS) := by rw [hX2.out]; exact k2.alloc _
      have k4 := k3.kept g2 (.inr u4)
      exact k4.kept (grownBy_setCell' w2' (n₀ + 1) v2) (.inr (q1d.not_row (by decide) k4).symm)
     ·rcases o2 with o2 | o2
      ·exact u4 (e.trans o2)
      ·have := (hult _ (e.trans o2)).2; omega
    ·obtain rfl : j = pre.length := by omega
     refine ⟨v1,by rw [List.getElem?_append_right (by rw [q3.1]; exact Nat.le_refl _),q3.1,Nat.sub_self]; rfl,?_,by rw [hv1]; simp [Value.ownBlock],fun e => ?_⟩
     ·rw [List.getElem_append_right (Nat.le_refl _)]
      simp only [Nat.sub_self,List.getElem_cons_zero]
      rw [hrowl,hrowx]
      have hne : v1.ownBlock ≠ v.ownBlock := fun e => by
       rcases o1' with o | o
       ·exact hvne (e.symm.trans o)
       ·have := (hvlt _ (e.symm.trans o)).2; omega
      have k3 : X2.ownsRow n₀ 9 1 v1 (d + 1) ([encS hd] ++ news) := by rw [hX2.out]; exact r1.alloc _
      have k4 := k3.kept g2 (.inr hne)
      exact k4.kept (grownBy_setCell' w2' (n₀ + 1) v2) (.inr (q1d.not_row (by decide) k4).symm)
     ·have hlt1 := r1.lt
      rcases o1' with o | o
      ·rcases o2 with p | p
       ·exact hvne (p.symm.trans (e.symm.trans o))
       ·have := Option.some.inj ((o.symm.trans e).trans p); omega
      ·rcases o2 with p | p
       ·have := (hvlt _ (p.symm.trans (e.symm.trans o))).2; omega
       ·have := Option.some.inj ((o.symm.trans e).trans p)
        have h5 := (hlt1 _ o).2
        omega
   ·rcases o2 with p | p
    ·rw [p]; exact q4.1
    ·rw [p]; intro e; have := Option.some.inj e; omega
   ·rcases o2 with p | p
    ·rw [p]; exact q4.2
    ·rw [p]; intro e; have := Option.some.inj e; omega
  rw [hv2] at hfin
  have hF : Hid _ := hfin
  clear hfin
  rw [hd0]
  have mixed : Try.prog.follows .mixedOrders = true := by kernel_rfl
  clear a1 a2 hhd hI0 hI hC
  gi_wp2
  gi_region_with_o (fail)
  all_goals exact hF.out
theorem pg_walk : PagesWalk Try.prog 6 17 18 19 24 9 := ⟨⟨_,Try.func6,by decide +kernel,rfl⟩,pg_main⟩
end
theorem ok_impl_PagesOf : FOk Try.prog phi 184 impl_PagesOf_c := pages_ok (g := 184) (gv := 566) (gw := 23) (gi := 1024) pg_walk (by kernel_rfl) (fun x b h => callOk_one ok_impl_ValidReport h) (fun a b c d h => callOk_three ok_impl_within h) (fun x b h => callOk_one ok_impl_isLine h)
theorem ok_spec_DrawFindLines : FOk Try.prog phi 183 spec_DrawFindLines_c := fn_ok hm (D := spec_DrawFindLines_D) (DOk.cons ok_spec_l00From (DOk.cons ok_spec_l00Src_text (DOk.cons ok_spec_l30Draw DOk.nil))) (by kernel_rfl) _ _ _ _
theorem ok_strings_Contains : FOk Try.prog phi 565 strings_Contains_c := contains_ok Try.laysM144 (of_decide_eq_true (by kernel_rfl)) (by kernel_rfl)
theorem ok_impl_FindLines : FOk Try.prog phi 182 impl_FindLines_c := fn_ok hm (D := impl_FindLines_D) (DOk.cons ok_strings_Contains (DOk.cons ok_impl_ValidReport DOk.nil)) (by kernel_rfl) _ _ _ _
theorem ok_laws_b10Rises : FOk Try.prog phi 71 laws_b10Rises_c := fn_ok hm (D := laws_b10Rises_D) DOk.nil (by kernel_rfl) _ _ _ _
theorem ok_laws_b10Has : FOk Try.prog phi 69 laws_b10Has_c := fn_ok hm (D := laws_b10Has_D) DOk.nil (by kernel_rfl) _ _ _ _
theorem ok_spec_DrawBarLines : FOk Try.prog phi 181 spec_DrawBarLines_c := fn_ok hm (D := spec_DrawBarLines_D) (DOk.cons ok_spec_l00From (DOk.cons ok_spec_l00Src_among (DOk.cons ok_spec_l00Src_pick DOk.nil))) (by kernel_rfl) _ _ _ _
theorem ok_strings_Repeat : FOk Try.prog phi 518 strings_Repeat_c := repeat_ok Try.lays105 Try.Builder_Extra_105 (by kernel_rfl)
theorem ok_impl_report : FOk Try.prog phi 517 impl_report_c := fn_ok hm (D := impl_report_D) (DOk.cons ok_impl_ValidReport DOk.nil) (by kernel_rfl) _ _ _ _
theorem ok_impl_BarLines : FOk Try.prog phi 138 impl_BarLines_c := fn_ok hm (D := impl_BarLines_D) (DOk.cons ok_impl_within (DOk.cons ok_impl_report (DOk.cons ok_strings_Repeat DOk.nil))) (by kernel_rfl) _ _ _ _
theorem ok_laws_FnPages : FOk Try.prog phi 1280 laws_FnPages_c := fn_ok hm (D := laws_FnPages_D) (DOk.cons ok_laws_b10Has (DOk.cons ok_laws_b10Rises (DOk.cons ok_laws_b10Long (DOk.cons ok_impl_BarLines (DOk.cons ok_spec_DrawBarLines (DOk.cons ok_impl_FindLines (DOk.cons ok_spec_DrawFindLines (DOk.cons ok_impl_PagesOf (DOk.cons ok_spec_DrawPagesOf DOk.nil))))))))) (by kernel_rfl) _ _ _ _
theorem law : ∀ x,wfU laws_FnPages_c.ps x → ∃ y,laws_FnPages_c.f x = some y ∧ resA laws_FnPages_c y = ([A.bool true],[]) := fun x hx => ⟨true,(laws_FnPages_true x.1 x.2.1 hx.1 hx.2.1),rfl⟩
theorem own : ownKnob Try.prog.godebug = none := by kernel_rfl
theorem laid : laidOutB Try.prog = true := by kernel_rfl
theorem reads : ∀ t ∈ Try.f3.params.toList,Try.prog.readableRec t = true ∧ t < Try.prog.types.size := by
 have h : (Try.f3.params.toList.all fun t => Try.prog.readableRec t && decide (t < Try.prog.types.size)) = true := by kernel_rfl
 intro t ht
 have := List.all_eq_true.1 h t ht
 simpa only [Bool.and_eq_true,decide_eq_true_eq] using this
theorem spec_eq (H : Type) : ∀ (ds : List (DataW H)),ds.length = Try.f3.params.toList.length → Rows.fnPagesSpec.fn H ds = { results := [.lit (.bool true)],args := ds } := by
 intro ds hd
 have hd : ds.length = 2 := hd
 match ds,hd with
 | [d0,d1],_ => rfl
theorem tab (W : World) : ∀ i,Try.prog.globalNamed pow10Name = some i → Lib.TabIs Try.prog W pow10Name .u64 Lib.pow10Tab := by
 intro i hi
 have h : Try.prog.globalNamed pow10Name = none := by kernel_rfl
 rw [h] at hi; cases hi
theorem errs (W : World) : ∀ n,errNames.contains n = true → ∀ i,Try.prog.globalNamed n = some i → ∃ u v,W.var? Try.prog n = some #[.iface u v] := by
 intro n hn i hi
 have hn : n = "strconv.ErrSyntax" ∨ n = "strconv.ErrRange" := by simpa [errNames] using hn
 rcases hn with rfl | rfl
 ·have h : Try.prog.globalNamed "strconv.ErrSyntax" = none := by kernel_rfl
  rw [h] at hi; cases hi
 ·have h : Try.prog.globalNamed "strconv.ErrRange" = none := by kernel_rfl
  rw [h] at hi; cases hi
theorem contract (H : Type) (enc : TypeId × Value → H) (W : World) (base : Nat) (args : Array Value) (ds gs : List (DataW H)) (before : List MemPlace)
 (hval : ∀ (j : Nat) t v,Try.f3.params[j]? = some t → args[j]? = some v → Value.okWide Try.prog W .any base t v)
 (hW : DataW.Whole enc Try.prog Try.f3.params.toList Rows.fnPagesSpec.vars false W args.toList ds gs before) (hsh : W.ShapedOpen Try.prog) :
 Calls Try.prog 3 args W fun e W' => ∃ v,e = .returned v ∧ Rows.fnPagesSpec.post enc Try.prog Try.f3 false true false false W args v W' :=
 row_contract (φ := phi) (g := 1280) (n := 20) ok_laws_FnPages rfl rfl (tb := 4) Try.underlying4 (by kernel_rfl) rfl law laid reads spec_eq W base args ds gs before hval hW (Glob.start hsh (tab W) (errs W))
theorem lifted (os : Os) (started : os.Started) (H : Type) (enc : TypeId × Value → H) :
 ReturnsInHanded {} Try.checked os 3 .any (Rows.fnPagesSpec.pre6 enc Try.prog Try.f3 Rows.fnPagesRow.domain false) (Rows.fnPagesSpec.post enc Try.prog Try.f3 false true false false) := by
 refine returnsInHanded_of_change_shaped (C := Try.checked) own started (by kernel_rfl) Try.func3
  (ChangeSpec.witness6 (enc := enc) (C := Try.checked) false ⟨#[],#[.slice none 0 0,.slice none 0 0],[]⟩ 12 (by kernel_rfl) (by kernel_rfl) (by kernel_rfl) (by kernel_rfl)) ?_
 intro W base args ds gs before hval hW _ _ hsh _
 exact contract H enc W base args ds gs before hval hW hsh
theorem over : Rows.fnPagesRow.holds Try.pinned (OpenSpec.ofChange Rows.fnPagesSpec) :=
 OpenClaim.holds_of_wide 3 Try.f3 rfl rfl rfl rfl rfl rfl rfl ⟨rfl,rfl,rfl,rfl,rfl⟩ rfl rfl rfl rfl rfl (by kernel_rfl) Try.func3 (by kernel_rfl)
  (of_decide_eq_true (by kernel_rfl)) (by unfold Func.isWrapper; first | (rw [if_pos (by decide +kernel)]; kernel_rfl) | (rw [if_neg (by decide +kernel)]; exact ⟨rfl,rfl⟩))
  (fun os started H enc _ => lifted os started H enc)
theorem proved : Rows.FnPagesSaid := over
end Go.Proofs.Ytljcekgbidbkbaa.fnPages
