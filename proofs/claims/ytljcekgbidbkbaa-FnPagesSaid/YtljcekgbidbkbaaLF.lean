/- impl.PagesOf. Conditions: none. -/
import Derived.Test.YtljcekgbidbkbaaLE
import Derived.Laws.AppendOwn
set_option linter.unusedVariables false
set_option linter.unusedSimpArgs false
namespace Go.Ab
open Go.RowKit
def pgR (len m : Nat) : Nat := (len + (m - 1)) / m
theorem pgR_ok {len m : Nat} (hm : 1 ≤ m) : pgR len m * m < len + m ∧ len ≤ pgR len m * m := by
 unfold pgR
 have h1 := Nat.div_add_mod (len + (m - 1)) m
 have h2 := Nat.mod_lt (len + (m - 1)) (show m > 0 by omega)
 rw [Nat.mul_comm] at h1
 omega
theorem pgR_le {len m : Nat} (hm : 1 ≤ m) : pgR len m ≤ len := by
 have h := (pgR_ok (len := len) hm).1
 rcases Nat.lt_or_ge len (pgR len m) with h2 | h2
 ·obtain ⟨d,hd⟩ : ∃ d,pgR len m = len + 1 + d := ⟨pgR len m - (len + 1),by omega⟩
  rw [hd] at h
  have : (len + 1 + d) * m = len * m + m + d * m := by rw [Nat.add_mul,Nat.add_mul,Nat.one_mul]
  have h3 := Nat.le_mul_of_pos_right len (show 0 < m by omega)
  omega
 ·exact h2
def pgRow (hd : List UInt8) (xs : List (List UInt8)) (m x : Nat) : List (List UInt8) := hd :: (xs.drop (x * m)).take m
def pgRows (e : TypeId) (hd : List UInt8) (xs : List (List UInt8)) (m n₁ : Nat) (v : Value) (vs : List Value) (pre : List Nat) (W : World) : Prop :=
 vs.length = pre.length ∧ ∀ (j : Nat) (hj : j < pre.length),∃ u,vs[j]? = some u ∧ W.ownsRow n₁ e 1 u (pgRow hd xs m pre[j]).length ((pgRow hd xs m pre[j]).map encS) ∧ u.ownBlock ≠ none ∧ u.ownBlock ≠ v.ownBlock
def pagesF (vr : List (List UInt8) → Option Bool) (wi : Int → Int → Int → Option Bool) (il : List UInt8 → Option Bool) (xs : List (List UInt8)) (h : Int) (hd : List UInt8) : Option (List (List (List UInt8)) × Int) :=
 (vr xs).bind fun a => if a then (wi h 2 200).bind fun b => if b then (il hd).bind fun c => if c then
   (if 2 ≤ h ∧ h ≤ 200 ∧ xs.length ≤ 1048576 then some ((List.range (pgR xs.length (h.toNat - 1))).map (pgRow hd xs (h.toNat - 1)),0) else none)
   else some ([],2) else some ([],2) else some ([],1)
noncomputable def pagesC (vr : List (List UInt8) → Option Bool) (wi : Int → Int → Int → Option Bool) (il : List UInt8 → Option Bool) : Callee :=
 { io := [],ps := [.d (.one (.sl strE)),.d (.one (.int .i64)),.d (.one .str)],rs := [.d (.one (.sl (.one (.sl strE)))),.d (.one (.int .i64))],os := [],f := fun x => pagesF vr wi il x.1 x.2.1 x.2.2.1 }
structure PagesWalk (P : Program) (fn vr wi il : Nat) (tS tE : TypeId) : Prop where
 en : Entered P fn
 run : ∀ (ad : Option Addr) (cap : Nat) (xs : List (List UInt8)) (h : Int) (hd : List UInt8) (vb wb ib : Bool) (w : World),xs.length ≤ cap →
  (xs.length = 0 ∨ ∃ b off,ad = some ⟨b,off,none⟩ ∧ b < w.heap.size ∧ Cells w b off (xs.map encS)) →
  (∀ W,Lo w.heap.size w W → Calls P vr #[.slice ad xs.length cap] W fun e W' => e = .returned (.bool vb) ∧ Lo W.heap.size W W') →
  (vb = true → ∀ W,Lo w.heap.size w W → Calls P wi #[.int .i64 h,.int .i64 2,.int .i64 200] W fun e W' => e = .returned (.bool wb) ∧ Lo W.heap.size W W') →
  (vb = true → wb = true → ∀ W,Lo w.heap.size w W → Calls P il #[encS hd] W fun e W' => e = .returned (.bool ib) ∧ Lo W.heap.size W W') →
  (vb = true → wb = true → ib = true → 2 ≤ h ∧ h ≤ 200 ∧ xs.length ≤ 1048576) →
  Calls P fn #[.slice ad xs.length cap,.int .i64 h,encS hd] w fun e w' => Lo w.heap.size w w' ∧
   if vb then (if wb && ib then ∃ v vs,e = .returned (.tuple #[v,.int .i64 0]) ∧ w'.ownsRow w.heap.size tS 1 v (pgR xs.length (h.toNat - 1)) vs ∧ pgRows tE hd xs (h.toNat - 1) w.heap.size v vs (List.range (pgR xs.length (h.toNat - 1))) w'
    else e = .returned (.tuple #[.slice none 0 0,.int .i64 2])) else e = .returned (.tuple #[.slice none 0 0,.int .i64 1])
section
variable {P : Program} {φ : Nat → Nat}
theorem CallOk.of_news {g : Nat} {al res : List A} (hn : al.any lentA = false)
 (h : ∀ (w : World) (K : Nat → Prop) (vs : List Value),Reps φ w K vs al → (∀ b,K b → b < w.heap.size) → Glob P K w →
   Calls P (φ g) vs.toArray w fun e w' => ∃ rvs,e = .returned (packV rvs) ∧ Lo w.heap.size w w' ∧ Reps φ w' (fun b => w.heap.size ≤ b ∧ b < w'.heap.size) rvs res) : CallOk P φ g al res [] := by
 intro w K vs bs ha hnd hKb hKz hG
 obtain ⟨hr,rfl⟩ := ha.noLent hn
 refine (h w K vs hr hKz hG).mono fun e w' hh => ?_
 obtain ⟨rvs,rfl,hb,h3⟩ := hh
 refine ⟨_,rfl,hb.size,fun b hb' _ => hb.block b hb',⟨hb.os,hb.output⟩,fun b off hb' => frozen?_block (hb.block b hb') off,fun b n hr => hr.of_block (hb.block b hr.lt),?_⟩
 exact ⟨rvs,fun b => K b ∨ (w.heap.size ≤ b ∧ b < w'.heap.size),[],[],rfl,fun _ h => .inl h,fun _ h => h.elim .inl fun h => .inr (.inr h),
  ResReps.of_reps (h3.mono (fun _ _ => rfl) fun _ h => .inr h),OutReps.data_all ha.len hn,by simp,fun b hb' => by simp at hb'⟩
theorem own_cells {w : World} {base : Nat} {e : TypeId} {v : Value} {n : Nat} {xs : List Value} (h : w.ownsRow base e 1 v n xs) :
 (v = .slice none 0 0 ∧ n = 0) ∨ ∃ g cap,v = .slice (some ⟨g,0,none⟩) n cap ∧ base ≤ g ∧ g < w.heap.size ∧ n ≤ cap ∧ Cells w g 0 xs := by
 rcases h.2 with h | ⟨g,cap,cur,e1,e2,e3,e4,_,e5,e6⟩
 ·exact .inl h
 ·refine .inr ⟨g,cap,e1,e2,?_,e4,fun j u hj => ?_⟩
  ·rcases Nat.lt_or_ge g w.heap.size with h | h
   ·exact h
   ·rw [Array.getElem?_eq_none h] at e3; cases e3
  ·rw [← e6,List.getElem?_take] at hj
   split at hj
   ·simp only [World.cell?,e3,Nat.zero_add]
    rw [Array.getElem?_toList] at hj
    simp [hj]
   ·cases hj
theorem pages_data {w : World} {base : Nat} {tS tE : TypeId} {hd : List UInt8} {xs : List (List UInt8)} {m n : Nat} {v : Value} {vs : List Value} (h1 : w.ownsRow base tS 1 v n vs) (h2 : pgRows tE hd xs m base v vs (List.range n) w) :
 Rep φ w (fun b => base ≤ b ∧ b < w.heap.size) v (.sl 1 (((List.range n).map (pgRow hd xs m)).map (ET.one (.sl strE)).enc)) := by
 obtain ⟨l1,l2⟩ := h2
 rw [List.length_range] at l1
 rcases own_cells h1 with ⟨rfl,rfl⟩ | ⟨g,cap,rfl,q1,q2,q3,q4⟩
 ·exact .slE none 0 1
 ·have hrow : ∀ (j : Nat) (hj : j < n),∃ u,vs[j]? = some u ∧ Rep φ w (fun b => base ≤ b ∧ b < w.heap.size) u (.sl 1 ((pgRow hd xs m j).map strE.enc)) := fun j hj => by
   obtain ⟨u,u1,u2,u3,u4⟩ := l2 j (by rw [List.length_range]; exact hj)
   rw [List.getElem_range] at u2
   refine ⟨u,u1,?_⟩
   rcases own_cells u2 with ⟨rfl,_⟩ | ⟨g',cap',rfl,r1,r2,r3,r4⟩
   ·exact absurd rfl u3
   ·have := Rep.sl (φ := φ) (w := w) (ok := fun b => base ≤ b ∧ b < w.heap.size) g' 0 cap' 1 ((pgRow hd xs m j).map strE.enc) _ ⟨r1,r2⟩ (fun x hx => by
     obtain ⟨z,_,rfl⟩ := List.mem_map.1 hx; rfl) (by rw [List.length_map]; exact r3) (texts_reps _) r4
    rw [List.length_map] at this
    exact this
  have key : ∀ (k i : Nat),i + k = n → Reps φ w (fun b => base ≤ b ∧ b < w.heap.size) (vs.drop i) ((((List.range n).drop i).map fun j => (ET.one (.sl strE)).enc (pgRow hd xs m j)).flatMap A.cells) := by
   intro k
   induction k with
   | zero =>
     intro i hi
     rw [List.drop_eq_nil_of_le (by omega),List.drop_eq_nil_of_le (by rw [List.length_range]; omega)]
     exact .nil
   | succ k ih =>
     intro i hi
     have hin : i < n := by omega
     obtain ⟨u,u1,u2⟩ := hrow i hin
     have hvl : i < vs.length := by omega
     have hvi : vs[i] = u := by rw [List.getElem?_eq_getElem hvl] at u1; exact Option.some.inj u1
     have e3 : (List.range n).drop i = i :: (List.range n).drop (i + 1) := by rw [List.drop_eq_getElem_cons (by rw [List.length_range]; exact hin),List.getElem_range]
     rw [List.drop_eq_getElem_cons hvl,hvi,e3,List.map_cons,List.flatMap_cons]
     exact .cons _ _ _ _ u2 (ih (i + 1) (by omega))
  have r1 := key n 0 (by omega)
  rw [List.drop_zero,List.drop_zero] at r1
  have := Rep.sl (φ := φ) (w := w) (ok := fun b => base ≤ b ∧ b < w.heap.size) g 0 cap 1 (((List.range n).map (pgRow hd xs m)).map (ET.one (.sl strE)).enc) vs ⟨q1,q2⟩ (fun x hx => by
   obtain ⟨z,_,rfl⟩ := List.mem_map.1 hx; rfl) (by rw [List.length_map,List.length_map,List.length_range]; exact q3) (by rw [List.map_map]; exact r1) q4
  rw [List.length_map,List.length_map,List.length_range] at this
  exact this
theorem pages_ok {vr : List (List UInt8) → Option Bool} {wi : Int → Int → Int → Option Bool} {il : List UInt8 → Option Bool} {g gv gw gi fn nv nw ni : Nat} {tS tE : TypeId} (L : PagesWalk P fn nv nw ni tS tE) (hφ : [g,gv,gw,gi].map φ = [fn,nv,nw,ni])
 (ov : ∀ x b,vr x = some b → CallOk P φ gv [(ET.one (.sl strE)).enc x] [(ET.one .bool).enc b] [])
 (ow : ∀ a b c d,wi a b c = some d → CallOk P φ gw [(ET.one (.int .i64)).enc a,(ET.one (.int .i64)).enc b,(ET.one (.int .i64)).enc c] [(ET.one .bool).enc d] [])
 (oi : ∀ x b,il x = some b → CallOk P φ gi [(ET.one .str).enc x] [(ET.one .bool).enc b] []) : FOk P φ g (pagesC vr wi il) := by
 simp only [List.map_cons,List.map_nil,List.cons.injEq,and_true] at hφ
 obtain ⟨h1,h2,h3,h4⟩ := hφ
 refine FOk.of_contract (by rw [h1]; exact L.en) rfl rfl fun x y hy => ?_
 obtain ⟨xs,h,hd,⟨⟩⟩ := x
 have hy' : pagesF vr wi il xs h hd = some y := hy
 unfold pagesF at hy'
 obtain ⟨vb,hvb,hy1⟩ := Option.bind_eq_some_iff.1 hy'
 have e1 : encU (pagesC vr wi il).ps (xs,h,hd,()) = [(ET.one (.sl strE)).enc xs,(ET.one (.int .i64)).enc h,(ET.one .str).enc hd] := by
  show [((ET.one (.sl strE)).v xs).a,((ET.one (.int .i64)).v h).a,((ET.one .str).v hd).a] = _
  rw [ET.v_a,ET.v_a,ET.v_a]
 have e2 : resA (pagesC vr wi il) y = ([.sl 1 ((show List (List (List UInt8)) × Int from y).1.map (ET.one (.sl strE)).enc),.int .i64 (show List (List (List UInt8)) × Int from y).2],[]) := by
  have q : ((ET.one (.sl (.one (.sl strE)))).v (show List (List (List UInt8)) × Int from y).1).a = (ET.one (.sl (.one (.sl strE)))).enc (show List (List (List UInt8)) × Int from y).1 := ET.v_a _ _
  exact congrArg (fun z => (([z,A.int .i64 (show List (List (List UInt8)) × Int from y).2] : List A),([] : List A))) q
 rw [e1,e2]
 clear e2 hy hy'
 replace hy1 : (if vb = true then (wi h 2 200).bind fun b => if b then (il hd).bind fun c => if c then (if 2 ≤ (show Int from h) ∧ (show Int from h) ≤ 200 ∧ List.length (α := List UInt8) xs ≤ 1048576 then some ((List.range (pgR (List.length (α := List UInt8) xs) ((show Int from h).toNat - 1))).map (pgRow hd xs ((show Int from h).toNat - 1)),0) else none) else some ([],2) else some ([],2) else some ([],1)) = some (show List (List (List UInt8)) × Int from y) := hy1
 generalize (show List (List (List UInt8)) × Int from y) = yy at hy1
 clear y
 obtain ⟨rows,cd⟩ := yy
 refine CallOk.of_news rfl fun w K vs hr hK hG => ?_
 cases hr with
 | cons v0 _ vs _ r0 t =>
 cases t with
 | cons v1 _ vs _ r1 t =>
 cases t with
 | cons v2 _ vs _ r2 t =>
 cases t
 cases r1
 cases r2
 have up : ∀ {W : World} {v : Value} {x : A},Lo w.heap.size w W → Rep φ w K v x → Rep φ W K v x := fun hL h => h.mono (fun b hb => hL.block b (hK b hb)) fun b hb => hb
 have kb : ∀ {W : World},Lo w.heap.size w W → ∀ b,K b → b < W.heap.size := fun hL b hb => Nat.lt_of_lt_of_le (hK b hb) hL.size
 have gl : ∀ {W : World},Lo w.heap.size w W → Glob P K W := fun hL => hG.on (fun b hb => hb) fun b hb => hL.block b (hK b hb)
 have r0' : Rep φ w K v0 (.sl 1 (xs.map strE.enc)) := r0
 obtain ⟨ad,cap,hv0,hcap,had⟩ : ∃ ad cap,v0 = .slice ad xs.length cap ∧ xs.length ≤ cap ∧ (xs.length = 0 ∨ ∃ b off,ad = some ⟨b,off,none⟩ ∧ b < w.heap.size ∧ Cells w b off (xs.map encS)) := by
  generalize hys : xs.map strE.enc = ys at r0'
  cases r0' with
  | slE ad c z =>
    have : xs = [] := by cases xs with | nil => rfl | cons => simp at hys
    subst this
    exact ⟨ad,c,rfl,Nat.zero_le _,.inl rfl⟩
  | sl b o c z ys us hb hzz hc hrr hcc =>
    subst hys
    obtain rfl := texts_inv hrr
    rw [List.length_map] at hc ⊢
    exact ⟨_,c,rfl,hc,.inr ⟨b,o,rfl,hK b hb,hcc⟩⟩
 subst hv0
 have cv : ∀ W,Lo w.heap.size w W → Calls P nv #[.slice ad xs.length cap] W fun e W' => e = .returned (.bool vb) ∧ Lo W.heap.size W W' := fun W hL => by
  have := (ov _ _ hvb).bool (w := W) (K := K) (vs := [.slice ad xs.length cap]) (.cons _ _ _ _ (up hL r0) .nil) (kb hL) (gl hL)
  rw [h2] at this; exact this
 have cw : ∀ {wb : Bool},wi h 2 200 = some wb → ∀ W,Lo w.heap.size w W → Calls P nw #[.int .i64 h,.int .i64 2,.int .i64 200] W fun e W' => e = .returned (.bool wb) ∧ Lo W.heap.size W W' := fun hwb W hL => by
  have := (ow _ _ _ _ hwb).bool (w := W) (K := K) (vs := [.int .i64 h,.int .i64 2,.int .i64 200]) (.cons _ _ _ _ (.int _ _) (.cons _ _ _ _ (.int _ _) (.cons _ _ _ _ (.int _ _) .nil))) (kb hL) (gl hL)
  rw [h3] at this; exact this
 have ci : ∀ {ib : Bool},il hd = some ib → ∀ W,Lo w.heap.size w W → Calls P ni #[encS hd] W fun e W' => e = .returned (.bool ib) ∧ Lo W.heap.size W W' := fun hib W hL => by
  have := (oi _ _ hib).bool (w := W) (K := K) (vs := [encS hd]) (.cons _ _ _ _ (.str hd) .nil) (kb hL) (gl hL)
  rw [h4] at this; exact this
 rw [h1]
 cases vb with
 | false =>
   obtain ⟨rfl,rfl⟩ : rows = [] ∧ cd = 1 := by simpa [eq_comm] using hy1
   refine (L.run ad cap xs h hd false false false w hcap had cv (fun h => by cases h) (fun h => by cases h) (fun h => by cases h)).mono fun e w' hh => ?_
   obtain ⟨hl,rfl⟩ := hh
   exact ⟨[.slice none 0 0,.int .i64 1],rfl,hl,.cons _ _ _ _ (.slE none 0 1) (.cons _ _ _ _ (.int _ _) .nil)⟩
 | true =>
   obtain ⟨wb,hwb,hy2⟩ := Option.bind_eq_some_iff.1 (show ((wi h 2 200).bind _) = some (rows,cd) from by simpa using hy1)
   cases wb with
   | false =>
     obtain ⟨rfl,rfl⟩ : rows = [] ∧ cd = 2 := by simpa [eq_comm] using hy2
     refine (L.run ad cap xs h hd true false false w hcap had cv (fun _ => cw hwb) (fun _ h => by cases h) (fun _ h => by cases h)).mono fun e w' hh => ?_
     obtain ⟨hl,rfl⟩ := hh
     exact ⟨[.slice none 0 0,.int .i64 2],rfl,hl,.cons _ _ _ _ (.slE none 0 1) (.cons _ _ _ _ (.int _ _) .nil)⟩
   | true =>
     obtain ⟨ib,hib,hy3⟩ := Option.bind_eq_some_iff.1 (show ((il hd).bind _) = some (rows,cd) from by simpa using hy2)
     cases ib with
     | false =>
       obtain ⟨rfl,rfl⟩ : rows = [] ∧ cd = 2 := by simpa [eq_comm] using hy3
       refine (L.run ad cap xs h hd true true false w hcap had cv (fun _ => cw hwb) (fun _ _ => ci hib) (fun _ _ h => by cases h)).mono fun e w' hh => ?_
       obtain ⟨hl,rfl⟩ := hh
       exact ⟨[.slice none 0 0,.int .i64 2],rfl,hl,.cons _ _ _ _ (.slE none 0 1) (.cons _ _ _ _ (.int _ _) .nil)⟩
     | true =>
       simp only [if_true] at hy3
       split at hy3
       ·rename_i hc
        have hy4 := Option.some.inj hy3
        simp only [Prod.mk.injEq] at hy4
        obtain ⟨rfl,rfl⟩ := hy4
        refine (L.run ad cap xs h hd true true true w hcap had cv (fun _ => cw hwb) (fun _ _ => ci hib) (fun _ _ _ => hc)).mono fun e w' hh => ?_
        obtain ⟨hl,v,vs,rfl,k1,k2⟩ := hh
        exact ⟨[v,.int .i64 0],rfl,hl,.cons _ _ _ _ (pages_data k1 k2) (.cons _ _ _ _ (.int _ _) .nil)⟩
       ·cases hy3
end
end Go.Ab
