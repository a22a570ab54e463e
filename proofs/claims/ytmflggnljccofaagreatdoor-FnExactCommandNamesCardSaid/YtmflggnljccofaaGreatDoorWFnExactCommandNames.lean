/- The law FnExactCommandNames answers true for every input, whatever it is, and leaves its arguments as they were. Conditions: none. -/
import Derived.Test.YtmflggnljccofaaGreatDoorQFnExactCommandNames
import Derived.Test.YtmflggnljccofaaGreatDoorRows
import Derived.Test.YtmflggnljccofaaGreatDoorL5
import Derived.Test.YtmflggnljccofaaGreatDoorShelf
import Derived.Carry
import Derived.Maps.RangeWalk
import Derived.Maps.Own
import Derived.Maps.AppendAt
import Derived.Sort.KeysCollected
import Derived.Sort.OwnSorted
import Derived.Sort.EveryDepth
import Derived.Shelf.Slices.In.SortAlone
import Derived.Test.YtmflggnljccofaaGreatDoorCards
import Derived.Test.YtmflggnljccofaaGreatDoorTie
import Derived.LaidMore
import Derived.Lay
import Derived.SevenTiedAt
import Derived.Stop.Joined
import Derived.WalkKit
import Derived.ProofKit
import Derived.OpenShut
import Derived.JoinedOf
import Derived.Handed
set_option linter.unusedVariables false
set_option maxRecDepth 100000
namespace Go.Proofs.YtmflggnljccofaaGreatDoor.fnExactCommandNames
open Go.Ab Go.Ab.P
open Go.ChangeShapes Go.WideShapes Go.ChangeAt Go.RowKit
def phiL : List (Nat × Nat) := [(433,4),(432,5),(137,6),(40,12),(139,7),(136,8),(1260,3)]
def phi (n : Nat) : Nat := (phiL.lookup n).getD 1000000
theorem hm : Tryz.prog.follows .mixedOrders = true := by kernel_rfl
theorem ok_spec_CommandNames : FOk Tryz.prog phi 433 spec_CommandNames_c := fn_ok hm (D := spec_CommandNames_D) DOk.nil (by kernel_rfl) _ _ _ _
section
open Go.Maps Go.Sort
theorem wpList_insert_own {H : Type} {P : Program} (w : World) {ops : Array Oper} {rest : List Oper} {o : Oper} {a : Act} {Q : Exit → Act → World → Prop}
 (hg : o.guard = none) (m x v : Operand) (t : TypeId) (hop : o.op = Op.insert t m x v)
 (k e : TypeId) (K : Keyed P k) (ht : P.underlying t = some (.map k e)) (R : Value → Option (DataW H × List MemPlace)) (b n : Nat) (D : DataW H)
 (hm : a.eval m = .map (some b)) (hown : w.ownsMap P k R b n D) (hn : n < maxLen) (key val : Value) (kl : Lit) (hx : a.eval x = key) (hv : a.eval v = val) (hkey : keyOf P k key = some kl)
 (d : DataW H) (ps : List MemPlace) (hval : R val = some (d,ps))
 (hK : ∀ w',w'.ownsMap P k R b (n + 1) (D.put kl d) → w.grownBy w' (some b) → wpList P ops Q rest (a.put o.dst undef) w') :
 wpList P ops Q (o :: rest) a w := by
 refine wpList_plain hg fun K' hK' => ?_
 obtain ⟨w',hrun,r1,r2⟩ := hown.update K ht hn hkey hval
 unfold Oper.wp
 simp [execOp,hop,hm,hx,hv,hrun,Result.andThen]
 exact hK' _ _ (hK w' r1 r2)
def anyR : Value → Option (DataW Unit × List MemPlace) := fun _ => some (.nil,[])
theorem lawK : Keyed Tryz.prog 9 := string_keyed Tryz.underlying9
theorem infoE : (Tryz.prog.info? 9).map (fun i => (i.zero,i.size,i.bytes)) = some (some (.string ⟨#[]⟩),1,16) := by kernel_rfl
theorem nkey (s : List UInt8) (h : s.length ≤ 100) : keyOf Tryz.prog 9 (.string ⟨s.toArray⟩) = some (.string s) := by
 have h2 : s.length ≤ maxLen := Nat.le_trans h (by decide)
 simp [keyOf,Tryz.underlying9,mapKey]
 exact h2
theorem actions_ok (w : World) : Calls Tryz.prog 9 #[] w fun e w' => ∃ (b n : Nat) (D : DataW Unit),e = .returned (.map (some b)) ∧ w'.ownsMap Tryz.prog 9 anyR b n D ∧ strKeys D = [[98,101,110,99,104,101,115],[99,108,101,97,110],[99,117,116],[100,114,121],[102,105,116],[103,108,117,101],[104,101,108,112],[109,97,115,115],[110,111,116,101],[111,112,101,110],[114,101,112,111,114,116],[115,104,105,109],[115,104,111,119],[116,104,105,110],[116,114,117,115,116],[119,111,108,102]] ∧ Maps.size D = 16 ∧ Below w.heap.size w w' ∧ w.heap.size ≤ b := by
 have hmm := @run_makeMap Tryz.prog
 have hown := World.ownsMap_made (H := Unit) w Tryz.prog 9 anyR
 have hB : Below w.heap.size w (w.alloc (.map #[] 0)) := (Below.refl _ _).alloc (Nat.le_refl _) _
 go_enter Tryz.func9,Tryz.ntmps9
 go_wp2_with (first
  | (refine wpList_insert_own _ rfl _ _ _ 27 rfl 9 37 lawK Tryz.underlying27 _ w.heap.size _ _ rfl hown (by decide) _ _ _ rfl rfl (nkey _ (by decide)) _ [] rfl ?_; clear hown; intro w1 hown hg1; replace hB := hB.grown hg1 (hB.size) (fun j hj => by cases hj; exact Nat.le_refl _); clear hg1)
  | go_in)
 go_ret
 exact ⟨_,_,_,rfl,hown,by decide,by decide,hB,Nat.le_refl _⟩
theorem texts_ok (w : World) : Calls Tryz.prog 10 #[] w fun e w' => ∃ (b n : Nat) (D : DataW Unit),e = .returned (.map (some b)) ∧ w'.ownsMap Tryz.prog 9 anyR b n D ∧ strKeys D = [[109,111,100,101],[110,101,99,107],[112,97,112,101,114],[112,101,103],[112,108,97,116,101],[112,111,116],[114,105,98],[115,116,97,99,107],[119,111,114,107]] ∧ Maps.size D = 9 ∧ Below w.heap.size w w' ∧ w.heap.size ≤ b := by
 have hmm := @run_makeMap Tryz.prog
 have hown := World.ownsMap_made (H := Unit) w Tryz.prog 9 anyR
 have hB : Below w.heap.size w (w.alloc (.map #[] 0)) := (Below.refl _ _).alloc (Nat.le_refl _) _
 go_enter Tryz.func10,Tryz.ntmps10
 go_wp2_with (first
  | (refine wpList_insert_own _ rfl _ _ _ 29 rfl 9 57 lawK Tryz.underlying29 _ w.heap.size _ _ rfl hown (by decide) _ _ _ rfl rfl (nkey _ (by decide)) _ [] rfl ?_; clear hown; intro w1 hown hg1; replace hB := hB.grown hg1 (hB.size) (fun j hj => by cases hj; exact Nat.le_refl _); clear hg1)
  | go_in)
 go_ret
 exact ⟨_,_,_,rfl,hown,by decide,by decide,hB,Nat.le_refl _⟩
end
section
open Go.Maps Go.Sort Go.Proofs
theorem row_ne_map {H : Type} {P : Program} {k : TypeId} {R : Value → Option (DataW H × List MemPlace)} {w : World} {b n : Nat} {D : DataW H} {base : Nat} {e : TypeId} {size : Nat} {v : Value} {m : Nat} {xs : List Value}
 (hr : w.ownsRow base e size v m xs) (ho : w.ownsMap P k R b n D) : some b ≠ v.ownBlock := by
 intro h
 rcases hr.2 with ⟨rfl,_⟩ | ⟨g,cap,cur,rfl,_,hb,_⟩
 ·simp [Value.ownBlock] at h
 ·simp [Value.ownBlock] at h
  subst h
  obtain ⟨es,clock,hm,_⟩ := ho
  rw [hb] at hm
  cases hm
theorem cmd_sorted {l : List (List UInt8)} (hp : l.Perm ([[98,101,110,99,104,101,115],[99,108,101,97,110],[99,117,116],[100,114,121],[102,105,116],[103,108,117,101],[104,101,108,112],[109,97,115,115],[110,111,116,101],[111,112,101,110],[114,101,112,111,114,116],[115,104,105,109],[115,104,111,119],[116,104,105,110],[116,114,117,115,116],[119,111,108,102]] ++ [[109,111,100,101],[110,101,99,107],[112,97,112,101,114],[112,101,103],[112,108,97,116,101],[112,111,116],[114,105,98],[115,116,97,99,107],[119,111,114,107]])) : (l.mergeSort fun x y => decide (x ≤ y)) = Go.Ab.cmdNames := by
 have h1 : l.Perm Go.Ab.cmdNames := hp.trans (by decide +kernel)
 refine (mergeSort_of_perm h1).trans (List.mergeSort_of_pairwise ?_)
 decide +kernel
set_option maxHeartbeats 3200000 in
theorem names_walk (hsort : ∀ (b cap : Nat) (ss : List (List UInt8)) (w : World),Holds encStr w b 0 ss.toArray → b < w.heap.size → ss.length < 4611686018427387904 →
 Calls Tryz.prog 11 #[.slice (some ⟨b,0,none⟩) ss.length cap] w fun e w' => e = .returned (.tuple #[]) ∧ ∃ n os,w' = grow (putRow encStr (Sort.ahead w n) b 0 (ss.mergeSort fun x y => decide (x ≤ y)).toArray) os) (w : World) :
 Calls Tryz.prog 5 #[] w fun x w' => ∃ b cap,x = .returned (.slice (some ⟨b,0,none⟩) Go.Ab.cmdNames.length cap) ∧ w'.ownsRow w.heap.size 9 1 (.slice (some ⟨b,0,none⟩) Go.Ab.cmdNames.length cap) Go.Ab.cmdNames.length (Go.Ab.cmdNames.map encStr) ∧ Below w.heap.size w w' := by
 obtain ⟨i0,hi,hz0,hz1,hz2⟩ := info_parts infoE
 go_enter Tryz.func5,Tryz.ntmps5
 go_wp2_with (first
  | (go_at_call 9; refine (actions_ok _).mono ?_; rintro e w1 ⟨b1,n1,D1,rfl,hown1,hk1,hs1,hB1,hb1⟩)
  | (at_range; refine wpList_range_own _ rfl _ 27 rfl 9 37 lawK Tryz.underlying27 _ b1 n1 _ rfl hown1 ?_; intro w0 hrg0 hg0 hs0)
  | go_in)
 have hbl1 := hown1.lt
 have hz : w.heap.size + 1 ≤ w1.heap.size := by have := hB1.size; simp at this; omega
 have hc1 : w1.heap[w.heap.size]? = some (.cells #[] 9) := (hB1.block w.heap.size (by simp)).trans (by simp only [World.alloc,Array.getElem?_push_size])
 have hr0 : w1.ownsRow w.heap.size 9 1 (.slice (some ⟨w.heap.size,0,none⟩) 0 0) 0 [] := ⟨rfl,.inr ⟨w.heap.size,0,#[],rfl,Nat.le_refl _,hc1,Nat.le_refl _,Nat.zero_le _,rfl,rfl⟩⟩
 have hBa : Below w.heap.size w w1 := ((Below.refl _ _).alloc (Nat.le_refl _) _).trans (hB1.mono (by simp))
 go_frame
 go_loopw [1] (fun v wr => ∃ (left : Lit → Bool) (cnt : Nat) (ss : List (List UInt8)),wr.ranges Tryz.prog 9 anyR b1 w1.heap.size n1 D1 left cnt ∧ ss.length + cnt ≤ Maps.size D1 ∧
  wr.ownsRow w.heap.size 9 1 v ss.length (ss.map encStr) ∧ v ≠ .slice none 0 0 ∧ Collected D1 left ss ∧ Below w.heap.size w wr)
  (fun _ wr => wr.rangeLeft b1 w1.heap.size)
 case atStart =>
  exact ⟨_,_,[],hrg0,by simp,hr0.kept hg0 (Or.inr (by simp [Value.ownBlock])),by simp,Collected.start D1,hBa.grown hg0 hBa.size (fun j hj => by cases hj)⟩
 case round =>
  obtain ⟨left,cnt,ss,hrg,hcs,hrow,hnn,hC,hnx⟩ := hrel
  go_wp2_with (first
   | (at_next; refine wpList_next_ranges _ rfl _ rfl 9 lawK anyR encStr (id : Value → Value) (fun key kl hk => by obtain ⟨x,hx,_⟩ := Maps.keyOf_str Tryz.underlying9 hk; exact ⟨x,hx⟩) (fun v y hv => ⟨v,rfl⟩) b1 w1.heap.size n1 _ _ _ rfl hrg ?_ ?_)
   | go_in)
  ·intro hc0 hl0
   have hp1 : ss.Perm [[98,101,110,99,104,101,115],[99,108,101,97,110],[99,117,116],[100,114,121],[102,105,116],[103,108,117,101],[104,101,108,112],[109,97,115,115],[110,111,116,101],[111,112,101,110],[114,101,112,111,114,116],[115,104,105,109],[115,104,111,119],[116,104,105,110],[116,114,117,115,116],[119,111,108,102]] := hk1 ▸ hC.perm hown1 lawK Tryz.underlying9 hl0
   rcases hrow.2 with ⟨hnil,_⟩ | ⟨g,cap,cur,rfl,hbase,hb,h1,h2,h3,h4⟩
   ·exact absurd hnil hnn
   have hgl : g < wr.heap.size := (Array.getElem?_eq_some_iff.1 hb).1
   go_wp2_with (first
    | (go_at_call 10; refine (texts_ok _).mono ?_; rintro e w2 ⟨b2,n2,D2,rfl,hown2,hk2,hs2,hB2,hb2⟩)
    | (at_range; refine wpList_range_own _ rfl _ 29 rfl 9 57 lawK Tryz.underlying29 _ b2 n2 _ rfl hown2 ?_; intro w3 hrg3 hg3 hs3)
    | go_in)
   have hrow2 : w2.ownsRow w.heap.size 9 1 (.slice (some ⟨g,0,none⟩) ss.length cap) ss.length (ss.map encStr) := ⟨hrow.1,.inr ⟨g,cap,cur,rfl,hbase,(hB2.block g hgl).trans hb,h1,h2,h3,h4⟩⟩
   have hBb : Below w.heap.size w w2 := hnx.trans (hB2.mono hnx.size)
   have hbl2 := hown2.lt
   go_frame
   go_loopw [1] (fun v wr => ∃ (left : Lit → Bool) (cnt : Nat) (s2 : List (List UInt8)),wr.ranges Tryz.prog 9 anyR b2 w2.heap.size n2 D2 left cnt ∧ s2.length + cnt ≤ Maps.size D2 ∧
    wr.ownsRow w.heap.size 9 1 v (ss ++ s2).length ((ss ++ s2).map encStr) ∧ v ≠ .slice none 0 0 ∧ Collected D2 left s2 ∧ Below w.heap.size w wr)
    (fun _ wr => wr.rangeLeft b2 w2.heap.size)
   case atStart =>
    exact ⟨_,_,[],hrg3,by simp,by simpa using hrow2.kept hg3 (Or.inr (by simp [Value.ownBlock])),by simp,Collected.start D2,hBb.grown hg3 hBb.size (fun j hj => by cases hj)⟩
   case round =>
    obtain ⟨left',cnt',s2,hrg',hcs',hrow',hnn',hC',hnx'⟩ := hrel
    go_wp2_with (first
     | (at_next; refine wpList_next_ranges _ rfl _ rfl 9 lawK anyR encStr (id : Value → Value) (fun key kl hk => by obtain ⟨x,hx,_⟩ := Maps.keyOf_str Tryz.underlying9 hk; exact ⟨x,hx⟩) (fun v y hv => ⟨v,rfl⟩) b2 w2.heap.size n2 _ _ _ rfl hrg' ?_ ?_)
     | go_in)
    ·intro hc1 hl1
     have hp2 : s2.Perm [[109,111,100,101],[110,101,99,107],[112,97,112,101,114],[112,101,103],[112,108,97,116,101],[112,111,116],[114,105,98],[115,116,97,99,107],[119,111,114,107]] := hk2 ▸ hC'.perm hown2 lawK Tryz.underlying9 hl1
     rcases hrow'.2 with ⟨hnil,_⟩ | ⟨g',cap',cur',rfl,hbase',hb',h1',h2',h3',h4'⟩
     ·exact absurd hnil hnn'
     have hH : Holds encStr _ g' 0 (ss ++ s2).toArray := holds_of_block hb' (by simpa using h4')
     have hgl' := (Array.getElem?_eq_some_iff.1 hb').1
     have hlt9 : (ss ++ s2).length < 4611686018427387904 := by rw [(hp1.append hp2).length_eq]; decide
     have hc := hsort g' cap' (ss ++ s2) _ hH hgl' hlt9
     rw [List.length_append] at hc
     clear hcs' hcs hs1 hs2 hk1 hk2 h4 hrow hrow' hnn hnn' hC hC' hrg hrg' hl0 hl1
     go_wp2_with (first
      | (go_at_call 11; refine hc.mono ?_; rintro e w' ⟨rfl,hw⟩)
      | go_in)
     go_ret
     obtain ⟨nn,os,rfl⟩ := hw
     have hlen : (ss ++ s2).length = 25 := (hp1.append hp2).length_eq
     have hm : ((ss ++ s2).mergeSort fun x y => decide (x ≤ y)) = Go.Ab.cmdNames := cmd_sorted (hp1.append hp2)
     have hlen2 : ss.length + s2.length = 25 := by rw [← List.length_append]; exact hlen
     refine ⟨g',cap',by rw [hlen2]; rfl,?_,hnx'.grown (grownBy_sorted _) hnx'.size (fun j hj => by cases hj; exact hbase')⟩
     have hr := ownsRow_sorted (n := nn) (os := os) (ts := (ss ++ s2).mergeSort fun x y => decide (x ≤ y)) (by simp) hbase' hb' h1' h2' h3'
     rw [hm,hlen] at hr
     rw [hm]
     exact hr
    ·intro x c kl yd yp w4 cnt2 hkey hlk hv hat hrg4 hlt hg4 hs4 hen
     obtain ⟨x',ex,rfl,_⟩ := Maps.keyOf_str Tryz.underlying9 hkey
     obtain rfl : x = x' := encStr_inj ex
     have hrow4 := hrow'.kept hg4 (Or.inr (row_ne_iter hrow' hrg').symm)
     clear hs4
     go_wp2_with (first
      | (at_builtin; refine wpList_append_own _ rfl _ _ 22 rfl w.heap.size 9 i0 (.string ⟨#[]⟩) 1 16 Tryz.underlying22 hi hz0 hz1 hz2 rfl (by decide) _ _ _ rfl (hrow4.alloc _) ⟨w4.heap.size,0,none⟩ 1 1 [encStr x] rfl rfl (cell_one_new _ _ _) (by simp [Value.oneCell',encStr]) (by simp only [List.length_append]; unfold maxLen; omega) (by simp only [List.length_append]; omega) (by have := hnx'.size; have := hg4.size; simp; omega) ?_; intro v5 w5 hown5 hg5 hnil5; go_frame)
      | go_in)
     have hrg5 := (hrg4.alloc _).kept hg5 (row_ne_map hrow4 hrg4.owns) (row_ne_iter hrow4 hrg4)
     go_roundw
     case rel =>
      refine ⟨_,cnt2,s2 ++ [x],hrg5,by simp; omega,by simpa [Nat.add_assoc] using hown5,fun hv' => by have := (hnil5.1 hv').2; omega,hC'.step hlk hat,?_⟩
      exact ((hnx'.grown hg4 hnx'.size (fun j hj => by cases hj; exact hBb.size)).alloc (by have := hnx'.size; have := hg4.size; omega) _).grown hg5 (by have := hnx'.size; have := hg4.size; simp; omega) (fun j hj => (hrow4.lt j hj).1)
     case measure => rw [hrg5.left_eq,hrg'.left_eq]; exact hlt
  ·intro x c kl yd yp w4 cnt2 hkey hlk hv hat hrg4 hlt hg4 hs4 hen
   obtain ⟨x',ex,rfl,_⟩ := Maps.keyOf_str Tryz.underlying9 hkey
   obtain rfl : x = x' := encStr_inj ex
   have hrow4 := hrow.kept hg4 (Or.inr (row_ne_iter hrow hrg).symm)
   clear hs4
   go_wp2_with (first
    | (at_builtin; refine wpList_append_own _ rfl _ _ 22 rfl w.heap.size 9 i0 (.string ⟨#[]⟩) 1 16 Tryz.underlying22 hi hz0 hz1 hz2 rfl (by decide) _ _ _ rfl (hrow4.alloc _) ⟨w4.heap.size,0,none⟩ 1 1 [encStr x] rfl rfl (cell_one_new _ _ _) (by simp [Value.oneCell',encStr]) (by unfold maxLen; omega) (by omega) (by have := hnx.size; have := hg4.size; simp; omega) ?_; intro v5 w5 hown5 hg5 hnil5; go_frame)
    | go_in)
   have hrg5 := (hrg4.alloc _).kept hg5 (row_ne_map hrow4 hrg4.owns) (row_ne_iter hrow4 hrg4)
   go_roundw
   case rel =>
    refine ⟨_,cnt2,ss ++ [x],hrg5,by simp; omega,by simpa [Nat.add_assoc] using hown5,fun hv' => by have := (hnil5.1 hv').2; omega,hC.step hlk hat,?_⟩
    exact ((hnx.grown hg4 hnx.size (fun j hj => by cases hj; exact hBa.size)).alloc (by have := hnx.size; have := hg4.size; omega) _).grown hg5 (by have := hnx.size; have := hg4.size; simp; omega) (fun j hj => (hrow4.lt j hj).1)
   case measure => rw [hrg5.left_eq,hrg.left_eq]; exact hlt
end
section
open Go.Ab Go.Proofs
theorem names_flat (xs : List (List UInt8)) : (xs.map A.str).flatMap A.cells = xs.map A.str := by
 induction xs with
 | nil => rfl
 | cons s xs ih => rw [List.map_cons,List.flatMap_cons,ih]; rfl
theorem names_reps {φ : Nat → Nat} {w : World} {K : Nat → Prop} : ∀ (xs : List (List UInt8)),Reps φ w K (xs.map encStr) (xs.map A.str)
 | [] => .nil
 | s :: xs => .cons _ _ _ _ (.str s) (names_reps xs)
theorem names_ok {P : Program} {φ : Nat → Nat} {g f : Nat} {ys : List (List UInt8)} {e : TypeId} (hφ : φ g = f) (he : Entered P f) (h0 : ys ≠ [])
 (hw : ∀ w : World,Calls P f #[] w fun x w' => ∃ b cap,x = .returned (.slice (some ⟨b,0,none⟩) ys.length cap) ∧ w'.ownsRow w.heap.size e 1 (.slice (some ⟨b,0,none⟩) ys.length cap) ys.length (ys.map encStr) ∧ Below w.heap.size w w') : FOk P φ g (namesC ys) := by
 subst hφ
 have hn : 0 < ys.length := List.length_pos_iff.2 h0
 refine FOk.of_contract he rfl rfl fun x y hy => ?_
 obtain rfl : ys = y := Option.some.inj hy
 show CallOk P φ g [] [A.tok 0 1 (ys.map A.str)] []
 refine CallOk.of_below rfl fun w K vs hr hK hG => ?_
 cases hr
 refine (hw w).mono fun x w' hh => ?_
 obtain ⟨b,cap,rfl,hrow,hb⟩ := hh
 obtain ⟨hl,⟨hc,_⟩ | ⟨b',cap',cur,hv,hbase,hcells,h1,h2,h3,h4⟩⟩ := hrow
 ·cases hc
 ·cases hv
  have hlt : b < w'.heap.size := (Array.getElem?_eq_some_iff.1 hcells).1
  rw [Nat.mul_one] at h4
  refine ⟨[_],K,[b],rfl,hb,fun _ h => h,fun _ h => .inl h,.cons _ _ [b] _ _ [] (.tok _ 0 1 _ (some b) ?_ ?_) .nil,by simp,fun c hc => ?_⟩
  ·have e1 : ys.length = (ys.map A.str).length := by rw [List.length_map]
   rw [e1]
   refine .mk b 0 cap 1 (ys.map A.str) (ys.map encStr) (by rw [List.length_map]; exact h1) (by omega) (fun x hx => by obtain ⟨s,_,rfl⟩ := List.mem_map.1 hx; rfl) (by rw [names_flat]; exact names_reps ys) (fun j v hj => ?_) ⟨cur,e,(0,0),hcells,by omega,fun o => ?_⟩
   ·rw [← h4] at hj
    have hj2 : cur.toList[j]? = some v := by
     rw [List.getElem?_take] at hj
     split at hj
     ·exact hj
     ·cases hj
    rw [Array.getElem?_toList] at hj2
    simp only [World.cell?,hcells,Nat.zero_add]
    exact hj2
   ·simp [World.frozen?,hcells]
  ·rw [List.all_map]; exact List.all_eq_true.2 fun _ _ => rfl
  ·simp only [List.mem_singleton] at hc
   subst hc
   exact ⟨fun hk => absurd (hK _ hk) (by omega),hlt,hbase⟩
end
theorem ok_impl_CommandNames : FOk Tryz.prog phi 432 impl_CommandNames_c := names_ok (e := 9) (f := 5) (by kernel_rfl) ⟨_,Tryz.func5,by decide +kernel,rfl⟩ (by decide) (fun w => names_walk (fun b cap ss w hH hb hl => Go.calls_of_every_depth fun D => AnyS.slices_Sort_string_alone Tryz.lays190 D b 0 cap ss w hH hb hl) w)
theorem ok_laws_eqStringS : FOk Tryz.prog phi 137 laws_eqStringS_c := fn_ok hm (D := laws_eqStringS_D) DOk.nil (by kernel_rfl) _ _ _ _
theorem ok_laws_markText : FOk Tryz.prog phi 40 laws_markText_c := fn_ok hm (D := laws_markText_D) DOk.nil (by kernel_rfl) _ _ _ _
theorem ok_laws_markStringS : FOk Tryz.prog phi 139 laws_markStringS_c := fn_ok hm (D := laws_markStringS_D) (DOk.cons ok_laws_markText DOk.nil) (by kernel_rfl) _ _ _ _
theorem ok_laws_heldStringS : FOk Tryz.prog phi 136 laws_heldStringS_c := fn_ok hm (D := laws_heldStringS_D) (DOk.cons ok_laws_markText DOk.nil) (by kernel_rfl) _ _ _ _
theorem ok_laws_FnExactCommandNames : FOk Tryz.prog phi 1260 laws_FnExactCommandNames_c := fn_ok hm (D := laws_FnExactCommandNames_D) (DOk.cons ok_laws_heldStringS (DOk.cons ok_laws_eqStringS (DOk.cons ok_laws_markStringS (DOk.cons ok_impl_CommandNames (DOk.cons ok_spec_CommandNames DOk.nil))))) (by kernel_rfl) _ _ _ _
theorem law : ∀ x,wfU laws_FnExactCommandNames_c.ps x → ∃ y,laws_FnExactCommandNames_c.f x = some y ∧ resA laws_FnExactCommandNames_c y = ([A.bool true],[]) := fun x hx => ⟨true,(laws_FnExactCommandNames_true  ),rfl⟩
theorem own : ownKnob Tryz.prog.godebug = none := by kernel_rfl
theorem laid : laidOutB Tryz.prog = true := by kernel_rfl
theorem reads : ∀ t ∈ Tryz.f3.params.toList,Tryz.prog.readableRec t = true ∧ t < Tryz.prog.types.size := by
 have h : (Tryz.f3.params.toList.all fun t => Tryz.prog.readableRec t && decide (t < Tryz.prog.types.size)) = true := by kernel_rfl
 intro t ht
 have := List.all_eq_true.1 h t ht
 simpa only [Bool.and_eq_true,decide_eq_true_eq] using this
theorem spec_eq (H : Type) : ∀ (ds : List (DataW H)),ds.length = Tryz.f3.params.toList.length → Rows.fnExactCommandNamesSpec.fn H ds = { results := [.lit (.bool true)],args := ds } := by
 intro ds hd
 have hd : ds.length = 0 := hd
 match ds,hd with
 | [],_ => rfl
theorem tab (W : World) (hL : laidMetH Tryz.prog Rows.fnExactCommandNamesRow.laid W) : ∀ i,Tryz.prog.globalNamed pow10Name = some i → Lib.TabIs Tryz.prog W pow10Name .u64 Lib.pow10Tab := by
 intro i hi
 have hp : (Rows.fnExactCommandNamesRow.laid.all fun x => x.2.handleName?.isNone) = true := by kernel_rfl
 rw [MakeChecks.laidMetH_plain _ _ _ hp] at hL
 have h1 : laidMet Tryz.prog (("internal/strconv.uint64pow10",Rows.laid_internal_strconv_uint64pow10) :: [("unicode/utf8.acceptRanges",Rows.laid_unicode_utf8_acceptRanges),("strconv.ErrRange",Rows.laid_strconv_ErrRange),("strconv.ErrSyntax",Rows.laid_strconv_ErrSyntax),("unicode/utf8.first",Rows.laid_unicode_utf8_first)]) W := (laidMet.tail (laidMet.tail hL))
 have e : (Rows.laid_internal_strconv_uint64pow10 : DataW Unit) = Lib.tabData .u64 Lib.pow10Tab := by kernel_rfl
 rw [e] at h1
 exact Lib.tabIs_of_head (t := 331) (e := 168) (n := 20) hi (by obtain rfl := Option.some.inj ((show Tryz.prog.globalNamed pow10Name = some 1 by kernel_rfl).symm.trans hi); kernel_rfl) (by kernel_rfl) (by kernel_rfl) (by kernel_rfl) (by kernel_rfl) h1
theorem errs (W : World) (hL : laidMetH Tryz.prog Rows.fnExactCommandNamesRow.laid W) : ∀ n,errNames.contains n = true → ∀ i,Tryz.prog.globalNamed n = some i → ∃ u v,W.var? Tryz.prog n = some #[.iface u v] := by
 intro n hn i hi
 have hn : n = "strconv.ErrSyntax" ∨ n = "strconv.ErrRange" := by simpa [errNames] using hn
 have hp : (Rows.fnExactCommandNamesRow.laid.all fun x => x.2.handleName?.isNone) = true := by kernel_rfl
 rw [MakeChecks.laidMetH_plain _ _ _ hp] at hL
 rcases hn with rfl | rfl
 ·have h1 : laidMet Tryz.prog (("strconv.ErrSyntax",Rows.laid_strconv_ErrSyntax) :: [("unicode/utf8.first",Rows.laid_unicode_utf8_first)]) W := (laidMet.tail (laidMet.tail (laidMet.tail (laidMet.tail (laidMet.tail hL)))))
  exact laid_iface (ti := 248) h1 ⟨_,_,rfl⟩ hi (by obtain rfl := Option.some.inj ((show Tryz.prog.globalNamed "strconv.ErrSyntax" = some 2 by kernel_rfl).symm.trans hi); kernel_rfl) Tryz.underlying248
 ·have h1 : laidMet Tryz.prog (("strconv.ErrRange",Rows.laid_strconv_ErrRange) :: [("strconv.ErrSyntax",Rows.laid_strconv_ErrSyntax),("unicode/utf8.first",Rows.laid_unicode_utf8_first)]) W := (laidMet.tail (laidMet.tail (laidMet.tail (laidMet.tail hL))))
  exact laid_iface (ti := 248) h1 ⟨_,_,rfl⟩ hi (by obtain rfl := Option.some.inj ((show Tryz.prog.globalNamed "strconv.ErrRange" = some 3 by kernel_rfl).symm.trans hi); kernel_rfl) Tryz.underlying248
theorem contract (H : Type) (enc : TypeId × Value → H) (W : World) (base : Nat) (args : Array Value) (ds gs : List (DataW H)) (before : List MemPlace)
 (hval : ∀ (j : Nat) t v,Tryz.f3.params[j]? = some t → args[j]? = some v → Value.okWide Tryz.prog W .any base t v)
 (hW : DataW.Whole enc Tryz.prog Tryz.f3.params.toList Rows.fnExactCommandNamesSpec.vars false W args.toList ds gs before) (hL : laidMetH Tryz.prog Rows.fnExactCommandNamesRow.laid W) (hsh : W.ShapedOpen Tryz.prog) :
 Calls Tryz.prog 3 args W fun e W' => ∃ v,e = .returned v ∧ Rows.fnExactCommandNamesSpec.post enc Tryz.prog Tryz.f3 false true false false W args v W' :=
 row_contract (φ := phi) (g := 1260) (n := 20) ok_laws_FnExactCommandNames rfl rfl (tb := 4) Tryz.underlying4 (by kernel_rfl) rfl law laid reads spec_eq W base args ds gs before hval hW (Glob.start hsh (tab W hL) (errs W hL))
theorem lifted (os : Os) (started : os.Started) (H : Type) (enc : TypeId × Value → H) :
 ReturnsInHanded {} Tryz.checked os 3 .any (fun w args => (Rows.fnExactCommandNamesSpec.pre enc Tryz.prog Tryz.f3 Rows.fnExactCommandNamesRow.domain false w args ∧ laidMetH Tryz.prog Rows.fnExactCommandNamesRow.laid w) ∧ sizedMet enc Tryz.prog Tryz.f3 (OpenSpec.ofChange Rows.fnExactCommandNamesSpec) false w args) (Rows.fnExactCommandNamesSpec.post enc Tryz.prog Tryz.f3 false true false false) := by
 refine returnsInHanded_laid (C := Tryz.checked) (laid := Rows.fnExactCommandNamesRow.laid) own started (by kernel_rfl) Tryz.func3
  (ChangeSpec.witness_shaped (enc := enc) (C := Tryz.checked) (os := os) (X := fun w _ => laidMetH Tryz.prog Rows.fnExactCommandNamesRow.laid w) false (World.laidAll Tryz.prog os Rows.fnExactCommandNamesRow.laid) #[] 12 (World.laidAll_os _ _ _)
    (World.shaped_of_ZipB (by kernel_rfl) (by kernel_rfl)) (by kernel_rfl) (by kernel_rfl) (by kernel_rfl)
    (by rw [MakeChecks.laidMetH_plain _ _ _ (by kernel_rfl)]; exact laidMet_laidAll _ (by kernel_rfl) (by kernel_rfl))) ?_
 intro W base args ds gs before hval hW hL hsh
 exact contract H enc W base args ds gs before hval hW hL hsh
theorem and_t {a b : Bool} (h : a = true) (h2 : b = true) : (a && b) = true := by rw [h,h2]; rfl
theorem jf0 : (Rows.fnExactCommandNamesRow.wf (OpenSpec.ofChange Rows.fnExactCommandNamesSpec)) = true := by kernel_rfl
theorem jf1 : (laidOutB Tryz.prog) = true := by kernel_rfl
theorem jf2 : (mapsRowed Tryz.prog) = true := by kernel_rfl
theorem jf3 : (Tryz.f3.params.all (Tryz.prog.readableRec ·)) = true := by kernel_rfl
theorem jf4 : (namedTie Tryz.prog Rows.fnExactCommandNamesRow.named Rows.fnExactCommandNamesSpec.vars) = true := by kernel_rfl
theorem jf5 : ((Rows.fnExactCommandNamesRow.stops == [])) = true := by kernel_rfl
theorem jf6 : ((Tryz.prog.stops == [])) = true := by kernel_rfl
theorem jf7 : ((Rows.fnExactCommandNamesRow.knobs == [])) = true := by kernel_rfl
theorem jf8 : ((Tryz.prog.stopKnobs == [])) = true := by kernel_rfl
theorem jf9 : ((Rows.fnExactCommandNamesRow.inPlace == Tryz.prog.inPlace 3)) = true := by kernel_rfl
theorem jf10 : ((Rows.fnExactCommandNamesRow.unfollowed == Tryz.prog.unfollowed 3)) = true := by kernel_rfl
theorem jf11 : ((Rows.fnExactCommandNamesRow.recurses == Tryz.prog.recurses 3)) = true := by kernel_rfl
theorem jf12 : ((Rows.fnExactCommandNamesRow.named == Tryz.prog.varsNamed 3)) = true := by kernel_rfl
theorem jf13 : ((Rows.fnExactCommandNamesRow.maps == (Tryz.f3.params.toList ++ Rows.fnExactCommandNamesSpec.plain.varTypes Tryz.prog).any (Tryz.prog.mapsRec ·))) = true := by kernel_rfl
theorem jf14 : ((Rows.fnExactCommandNamesRow.ifaces == (Tryz.f3.params.toList ++ Rows.fnExactCommandNamesSpec.plain.varTypes Tryz.prog).any (Tryz.prog.ifacesRec ·))) = true := by kernel_rfl
theorem jf15 : ((Rows.fnExactCommandNamesRow.mapsOut == Tryz.prog.mapsAmong Tryz.f3.resultTypes.toList)) = true := by kernel_rfl
theorem jf16 : ((Rows.fnExactCommandNamesRow.loops == (Tryz.f3.params.toList ++ Rows.fnExactCommandNamesSpec.plain.varTypes Tryz.prog).any (Tryz.prog.loopsFrom ·))) = true := by kernel_rfl
theorem jf17 : ((Rows.fnExactCommandNamesRow.wideKeys == (Tryz.f3.params.toList ++ Rows.fnExactCommandNamesSpec.plain.varTypes Tryz.prog ++ Tryz.f3.resultTypes.toList).any (Tryz.prog.wideKeysFrom ·))) = true := by kernel_rfl
theorem jf18 : (Rows.fnExactCommandNamesSpec.vars.all (Tryz.prog.varReadable ·)) = true := by kernel_rfl
theorem jf19 : (Tryz.f3.resultTypes.all (fun t => Tryz.prog.readableRec t && decide (t < Tryz.prog.types.size))) = true := by kernel_rfl
theorem jf20 : ((Rows.fnExactCommandNamesRow.ifacesOut == Tryz.f3.resultTypes.toList.any (Tryz.prog.ifacesRec ·))) = true := by kernel_rfl
theorem jf21 : ((Rows.fnExactCommandNamesRow.loopsOut == Tryz.f3.resultTypes.toList.any (Tryz.prog.loopsFrom ·))) = true := by kernel_rfl
theorem jf22 : ((Rows.fnExactCommandNamesRow.plainKeys == Tryz.prog.plainKeys)) = true := by kernel_rfl
theorem jf23 : (Rows.fnExactCommandNamesRow.shortTexts.isNone) = true := by kernel_rfl
theorem jf24 : (Tryz.prog.stopsHeard) = true := by kernel_rfl
theorem jf25 : (Tryz.prog.mayEnter) = true := by kernel_rfl
theorem jf26 : ((Rows.fnExactCommandNamesRow.lifted == Tryz.prog.liftsFinal)) = true := by kernel_rfl
theorem jf27 : ((Tryz.prog.make == some Rows.fnExactCommandNamesRow.make)) = true := by kernel_rfl
theorem jf28 : ((Rows.fnExactCommandNamesRow.kinds == (if Rows.fnExactCommandNamesRow.domain.isEmpty then [] else Tryz.f3.params.toList.map fun t => match Tryz.prog.underlying t with | some (.int k) => some k | _ => none))) = true := by kernel_rfl
theorem jf29 : ((Rows.fnExactCommandNamesRow.pinned == Rows.fnExactCommandNamesRow.pinnedBy)) = true := by kernel_rfl
theorem jf30 : ((Rows.fnExactCommandNamesRow.veiled == (Tryz.f3.params.toList ++ Rows.fnExactCommandNamesSpec.plain.varTypes Tryz.prog ++ Tryz.f3.resultTypes.toList).any (Tryz.prog.veiledRec ·))) = true := by kernel_rfl
theorem jf31 : (Rows.fnExactCommandNamesRow.veiledFits Tryz.prog Tryz.f3.params.toList (Tryz.f3.params.toList ++ Rows.fnExactCommandNamesSpec.plain.varTypes Tryz.prog ++ Tryz.f3.resultTypes.toList)) = true := by kernel_rfl
theorem jf : joinedFacts Tryz.prog 3 Tryz.f3 Rows.fnExactCommandNamesSpec Rows.fnExactCommandNamesRow = true := (and_t (and_t (and_t (and_t (and_t (and_t (and_t (and_t (and_t (and_t (and_t (and_t (and_t (and_t (and_t (and_t (and_t (and_t (and_t (and_t (and_t (and_t (and_t (and_t (and_t (and_t (and_t (and_t (and_t (and_t (and_t jf0 jf1) jf2) jf3) jf4) jf5) jf6) jf7) jf8) jf9) jf10) jf11) jf12) jf13) jf14) jf15) jf16) jf17) jf18) jf19) jf20) jf21) jf22) jf23) jf24) jf25) jf26) jf27) jf28) jf29) jf30) jf31)
theorem hfn : Tryz.checked.prog.funcNamed Rows.fnExactCommandNamesRow.func = some 3 := by kernel_rfl
theorem over : Rows.fnExactCommandNamesRow.holds Tryz.pinned (OpenSpec.ofChange Rows.fnExactCommandNamesSpec) :=
 OpenClaim.holds_of_wide 3 Tryz.f3 rfl rfl rfl rfl rfl rfl rfl ⟨rfl,rfl,rfl,rfl,rfl⟩ rfl rfl rfl rfl rfl hfn Tryz.func3 jf
  (of_decide_eq_true (by kernel_rfl)) (by unfold Func.isWrapper; first | (rw [if_pos (by decide +kernel)]; kernel_rfl) | (rw [if_neg (by decide +kernel)]; exact ⟨rfl,rfl⟩))
  (fun os started H enc _ => lifted os started H enc)
theorem card : Rows.FnExactCommandNamesCardSaid :=
 Claim7.holds_tied_plain_at .later [] [.data,.data,.data,.data,.sentinel,.sentinel,.pinned] true (true,"c3350795042dd6210d99691c5deba5f85afacdfffe171b3d5cf3bf3bdd018fa1") true over (fun _ h => by cases h) (by kernel_rfl) (fun _ h => by cases h) fnExactCommandNames_row_tie rfl ⟨rfl,rfl⟩ (by kernel_rfl) rfl
  (fun f fn hf hfn => by
    obtain rfl : f = 3 := Option.some.inj ((show Tryz.prog.funcNamed "loop.example/g01061/laws.FnExactCommandNames" = some 3 by kernel_rfl).symm.trans hf) |>.symm
    obtain rfl : fn = Tryz.f3 := (Option.some.inj (Tryz.func3.symm.trans hfn)).symm
    exact ⟨by kernel_rfl,fun j t ht => by
     have hm : t ∈ Tryz.f3.params.toList := by simpa using Array.mem_of_getElem? ht
     have hall : (Tryz.f3.params.toList.all fun u => !Tryz.prog.wantsStandIn u) = true := by kernel_rfl
     exact (show Tryz.prog.wantsStandIn t = false by simpa using List.all_eq_true.1 hall t hm)⟩)
  (by kernel_rfl)
theorem proved : Rows.FnExactCommandNamesCardSaid := card
end Go.Proofs.YtmflggnljccofaaGreatDoor.fnExactCommandNames
