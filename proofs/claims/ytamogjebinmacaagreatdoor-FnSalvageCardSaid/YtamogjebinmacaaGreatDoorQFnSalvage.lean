/- Salvage: a line with one byte changed is lost, and no other. Conditions: bytes are bytes. -/
import Derived.Test.YtamogjebinmacaaGreatDoorBFnSalvage
set_option linter.unusedVariables false
set_option linter.unusedSectionVars false
set_option linter.unusedSimpArgs false
set_option maxRecDepth 4000
namespace Go.Ab.P
open Go.Ab
theorem count_loop (xs : List T_Block.ty) (own : List UInt8) (n0 : Nat) (old : Int) (r8 : List Int) {p : Nat} (hp : p < own.length) (hl : own.length ≤ 1048576) : ∀ (n i : Nat),i + n = p → laws_FnSalvage_p0 xs own n0 p old ((1 + (own.take i).count 10 : Nat) : Int) i r8 = laws_FnSalvage_p0 xs own n0 p old ((1 + (own.take p).count 10 : Nat) : Int) p r8
 | 0,i,hn => by
   have : i = p := by omega
   subst this; rfl
 | n + 1,i,hn => by
   have hi : i < own.length := by omega
   have hlt : (i : Int) < (p : Int) := by omega
   have IH := count_loop xs own n0 old r8 hp hl n (i + 1) (by omega)
   have hc : (own.take i).count 10 ≤ 1048576 := by have := List.count_le_length (a := (10 : UInt8)) (l := own.take i); rw [List.length_take] at this; omega
   have ht : (own.take (i + 1)).count 10 = (own.take i).count 10 + if own[i] = 10 then 1 else 0 := by
    rw [List.take_succ_eq_append_getElem hi,List.count_append,List.count_singleton]
    by_cases c : own[i] = 10 <;> simp [c]
   rw [laws_FnSalvage_p0_eq xs own n0 p old _ i r8]
   simp only [hlt,decide_true,if_true,Int.natCast_nonneg,Int.toNat_natCast,List.getElem?_eq_getElem hi,Option.bind_some,wsucc (show i < 4611686018427387904 by omega)]
   by_cases c : own[i] = 10
   ·have e1 : ((own[i].toNat : Int) == 10) = true := by rw [c]; rfl
    rw [if_pos c] at ht
    rw [ht] at IH
    rw [if_pos e1,wsucc (by omega)]
    exact IH
   ·have e1 : ¬ ((own[i].toNat : Int) == 10) = true := fun e => by
     have : own[i].toNat = 10 := by have := eq_of_beq e; omega
     exact c (UInt8.toNat_inj.1 this)
    rw [if_neg c,Nat.add_zero] at ht
    rw [ht] at IH
    rw [if_neg e1]
    exact IH
theorem salvage_law {xs : List T_Block.ty} (h : Blocks xs) (h6 : xs.length ≤ 6) {p : Nat} (hp : p < (endT (linesT xs)).length) {c : UInt8} (hold : (endT (linesT xs))[p] ≠ 10) (hc : c ≠ (endT (linesT xs))[p]) (hc10 : c ≠ 10) (h1 : ((endT (linesT xs)).take p).count 10 ≠ 0) {r8 : List Int} (h8 : (r8.take (endT (linesT xs)).length).map vu8 = (endT (linesT xs)).set p c) :
 laws_FnSalvage_p1 xs (endT (linesT xs)).length ((1 + ((endT (linesT xs)).take p).count 10 : Nat) : Int) r8 = some true := by
 have hf : ∀ b,b ∈ xs → Fine b := fun b hb => fine (h.ok b hb)
 have hno : ∀ l,l ∈ linesT xs → (10 : UInt8) ∉ l := fun l hl => by
  rcases List.mem_cons.1 hl with e | e
  ·rw [e]; exact head_no _
  ·obtain ⟨b,hb,rfl⟩ := List.mem_map.1 e
   exact line_no (rest_no (hf b hb))
 have hlen : (linesT xs).length = xs.length + 1 := by simp [linesT]
 obtain ⟨j,i,hj,hi,q1,q2,q3⟩ := place hno hp hold
 rw [q1] at h1 ⊢
 rw [q2] at hc
 have hj0 : 0 < j := by omega
 have hjx : j - 1 < xs.length := by omega
 have ej : (linesT xs)[j] = lineT (restT (kAt xs (j - 1))) := by
  have : (linesT xs)[j]? = some (lineT (restT (kAt xs (j - 1)))) := by
   rw [linesT,show j = (j - 1) + 1 by omega,List.getElem?_cons_succ,List.getElem?_map,Nat.add_sub_cancel,kAt_get hjx]; rfl
  rw [List.getElem?_eq_getElem hj] at this
  exact Option.some.inj this
 have hbj := hf _ (kAt_mem hjx)
 obtain ⟨ls,hls⟩ : ∃ ls,ls = (linesT xs).set j ((linesT xs)[j].set i c) := ⟨_,rfl⟩
 have hno2 : ∀ l,l ∈ ls → (10 : UInt8) ∉ l := fun l hl => by
  rw [hls] at hl
  rcases List.mem_or_eq_of_mem_set hl with e | e
  ·exact hno l e
  ·rw [e]; intro hm
   rcases List.mem_or_eq_of_mem_set hm with e2 | e2
   ·exact hno _ (List.getElem_mem hj) e2
   ·exact hc10 e2.symm
 have hll : ls.length = xs.length + 1 := by rw [hls,List.length_set,hlen]
 have hlsl : ∀ l,l ∈ linesT xs → l.length ≤ 600 := fun l hl => by
  rcases List.mem_cons.1 hl with e | e
  ·have := itoa5 (u := xs.length) (by omega)
   rw [e,headT]; simp; omega
  ·obtain ⟨b,hb,rfl⟩ := List.mem_map.1 e
   rw [lineT_len]; have := rest_len (hf b hb); omega
 have hel : (endT (linesT xs)).length ≤ 5000 := by have := end_len _ 600 hlsl; rw [hlen] at this; omega
 have htext : (endT (linesT xs)).set p c = endT ls := by rw [q3,hls]
 have htl : (endT ls).length ≤ 5000 := by rw [← htext,List.length_set]; exact hel
 have hsplit : strings_Split (endT ls) [10] = some (ls ++ [[]]) := by
  have a1 : (endT ls).length < 4294967281 := by omega
  rw [strings_Split_eq]
  simp only [a1,decide_true,Bool.true_and,List.length_cons,List.length_nil,Nat.le_refl,if_true]
  rw [split_end hno2]
 have hR : ∀ t (ht : t < (ls ++ [[]]).length),∃ r : T_Block.ty × Int,impl_readBlock (ls ++ [[]])[t] = some r ∧ (t = j → r.2 ≠ 0) ∧ (0 < t → t ≤ xs.length → t ≠ j → r = (kAt xs (t - 1),0)) := fun t ht => by
  rw [List.length_append,List.length_cons,List.length_nil,hll] at ht
  by_cases te : t = xs.length + 1
  ·subst te
   have e0 : (ls ++ [[]])[xs.length + 1]'(by simp; omega) = [] := by rw [List.getElem_append_right (by omega)]; simp [hll]
   refine ⟨(([],[],[],()),9),?_,fun e => by omega,fun _ h2 => by omega⟩
   rw [e0,impl_readBlock_eq]; rfl
  ·have htl : t < ls.length := by omega
   have e0 : (ls ++ [[]])[t]'(by simp; omega) = ls[t] := List.getElem_append_left htl
   rw [e0]
   by_cases tj : t = j
   ·subst tj
    have e1 : ls[t] = (lineT (restT (kAt xs (t - 1)))).set i c := by
     simp only [hls,List.getElem_set_self]; rw [ej]
    have hi' : i < (lineT (restT (kAt xs (t - 1)))).length := by rw [← ej]; exact hi
    have hc' : c ≠ (lineT (restT (kAt xs (t - 1))))[i] := by
     intro e; apply hc; rw [e]; congr 1; exact ej.symm
    obtain ⟨b,e,hb,he⟩ := readBlock_bad (rest_len hbj) hi' hc'
    exact ⟨(b,e),by rw [e1,hb],fun _ => he,fun _ _ h3 => absurd rfl h3⟩
   ·have e1 : ls[t] = (linesT xs)[t]'(by omega) := by
     simp only [hls]; rw [List.getElem_set_ne (fun e => tj e.symm)]
    rw [e1]
    by_cases t0 : t = 0
    ·subst t0
     have hh : 6 ≤ (headT xs.length).length := by rw [headT]; simp only [List.length_append,List.length_cons]; omega
     have n1 : ¬ ((headT xs.length).length : Int) < 6 := by omega
     have g5 : (headT xs.length)[5]? = some 118 := by rw [headT]; rfl
     refine ⟨(([],[],[],()),9),?_,fun e => by omega,fun h2 => by omega⟩
     show impl_readBlock (headT xs.length) = _
     rw [impl_readBlock_eq,if_neg (by simpa using n1),g5,Option.bind_some,if_pos (by decide)]
    ·have hx : t - 1 < xs.length := by omega
     have e2 : (linesT xs)[t]'(by omega) = lineT (restT (kAt xs (t - 1))) := by
      have : (linesT xs)[t]? = some (lineT (restT (kAt xs (t - 1)))) := by
       rw [linesT,show t = (t - 1) + 1 by omega,List.getElem?_cons_succ,List.getElem?_map,Nat.add_sub_cancel,kAt_get hx]; rfl
      rw [List.getElem?_eq_getElem (by omega)] at this
      exact Option.some.inj this
     exact ⟨(kAt xs (t - 1),0),by rw [e2,readBlock_ok (hf _ (kAt_mem hx))],fun e => absurd e tj,fun _ _ _ => rfl⟩
 have hLl : (ls ++ [[]]).length = xs.length + 2 := by simp [hll]
 classical
 have hRx : ∃ R : Nat → T_Block.ty × Int,∀ t (ht : t < (ls ++ [[]]).length),impl_readBlock (ls ++ [[]])[t] = some (R t) ∧ (t = j → (R t).2 ≠ 0) ∧ (0 < t → t ≤ xs.length → t ≠ j → R t = (kAt xs (t - 1),0)) :=
  ⟨fun t => if ht : t < (ls ++ [[]]).length then (hR t ht).choose else (([],[],[],()),0),fun t ht => by simp only [dif_pos ht]; exact (hR t ht).choose_spec⟩
 obtain ⟨R,hR1⟩ := hRx
 have hbad : (R j).2 ≠ 0 := (hR1 j (by omega)).2.1 rfl
 have hgood : ∀ t,0 < t → t ≤ xs.length → t ≠ j → R t = (kAt xs (t - 1),0) := fun t a b d => (hR1 t (by omega)).2.2 a b d
 have hdam : impl_DamagedLines (endT ls) = some [((j + 1 : Nat) : Int)] := by
  have w1 : IntKind.i64.wrap (((ls ++ [[]]).length : Int) - 1) = ((xs.length + 1 : Nat) : Int) := by rw [hLl,w64 (by omega) (by omega)]; omega
  rw [impl_DamagedLines_eq,hsplit,Option.bind_some,w1,hLl]
  have := damaged_loop (L := ls ++ [[]]) (m := xs.length + 1) (j := j) (by omega) (by omega) hj0 (by omega) R (fun t ht => (hR1 t ht).1) hbad (fun t a b d => by rw [hgood t a (by omega) d]) (by rw [List.getElem?_append_right (by omega),hll]; simp) (xs.length + 2) 0 (by omega)
  rw [if_pos (Nat.zero_le j)] at this
  exact this
 have hsal : impl_SalvageBlocks (endT ls) = some (xs.take (j - 1) ++ xs.drop j) := by
  rw [impl_SalvageBlocks_eq,hsplit,Option.bind_some]
  have := salvage_loop h (by omega) (L := ls ++ [[]]) (j := j) hLl hj0 (by omega) R (fun t ht => (hR1 t ht).1) hbad hgood xs.length 1 (by omega) (by omega)
  have e1 : acc xs j 1 = [] := by rw [acc,if_pos (by omega)]; simp
  have e2 : acc xs j (xs.length + 1) = xs.take (j - 1) ++ xs.drop j := by rw [acc,if_neg (by omega),Nat.add_sub_cancel,List.take_length]
  rw [e1,e2] at this
  exact this
 have hsame1 : laws_r8Same [((j + 1 : Nat) : Int)] [((1 + j : Nat) : Int)] = some true := by
  rw [show 1 + j = j + 1 by omega,laws_r8Same_eq,if_neg (by simp)]
  have st : laws_r8Same_p0 [((j + 1 : Nat) : Int)] [((j + 1 : Nat) : Int)] 0 = laws_r8Same_p0 [((j + 1 : Nat) : Int)] [((j + 1 : Nat) : Int)] 1 := by
   rw [laws_r8Same_p0_eq _ _ 0,if_pos (by simp),if_pos (by decide)]
   simp only [show (0 : Int).toNat = 0 from rfl,List.getElem?_cons_zero,Option.bind_some,show (0 : Int) ≤ 0 from Int.le_refl _,decide_true,if_true,bne_self_eq_false,Bool.false_eq_true,if_false]
   rfl
  rw [st,laws_r8Same_p0_eq,if_neg (by simp)]
 have w2 : IntKind.i64.wrap (((1 + j : Nat) : Int) - 2) = ((j - 1 : Nat) : Int) := by rw [w64 (by omega) (by omega)]; omega
 have w3 : IntKind.i64.wrap (((1 + j : Nat) : Int) - 1) = ((j : Nat) : Int) := by rw [w64 (by omega) (by omega)]; omega
 have b1 : ((j - 1 : Nat) : Int) ≤ (xs.length : Int) := by omega
 have b2 : ((j : Nat) : Int) ≤ (xs.length : Int) := by omega
 have b3 : 0 + (xs.take (j - 1)).length < lim := by rw [List.length_take]; unfold lim; omega
 have b4 : (xs.take (j - 1)).length + (xs.drop j).length < lim := by simp only [List.length_take,List.length_drop]; unfold lim; omega
 rw [laws_FnSalvage_p1_eq,h8,htext,hdam,Option.bind_some,hsal,Option.bind_some,List.take_length,hsame1,Option.bind_some]
 simp only [Bool.not_true,Bool.false_eq_true,if_false,w2,w3,Int.natCast_nonneg,b1,b2,decide_true,Bool.and_self,if_true,Int.toNat_natCast,b3,b4,List.nil_append,List.take_length]
 rw [same_ok _ (by rw [List.length_append,List.length_take,List.length_drop]; omega)]
 rfl
theorem laws_FnSalvage_true (a0 a1 : List Int) (h0 : ET.wf (.one (.sl (.one (.int .u8)))) a0) (h1 : ET.wf (.one (.sl (.one (.int .u8)))) a1) : laws_FnSalvage a0 a1 = some true := by
 rw [laws_FnSalvage_eq,longS,Option.bind_some]
 by_cases c0 : (a0.length : Int) > 1048576
 ·simp [c0]
 by_cases c1 : (a1.length : Int) > 1048576
 ·simp [c1]
 simp only [c0,c1,decide_false,Bool.or_self,Bool.false_eq_true,if_false]
 obtain ⟨xs,e0,lx,hx⟩ := blocks_draw a0 (bytes_ok h0) (by omega)
 have hf : ∀ b,b ∈ xs → Fine b := fun b hb => fine (hx.b.ok b hb)
 have hlsl : ∀ l,l ∈ linesT xs → l.length ≤ 600 := fun l hl => by
  rcases List.mem_cons.1 hl with e | e
  ·have := itoa5 (u := xs.length) (by omega)
   rw [e,headT]; simp; omega
  ·obtain ⟨b,hb,rfl⟩ := List.mem_map.1 e
   rw [lineT_len]; have := rest_len (hf b hb); omega
 have hel : (endT (linesT xs)).length ≤ 5000 := by
  have := end_len _ 600 hlsl
  rw [show (linesT xs).length = xs.length + 1 by simp [linesT]] at this; omega
 have hpos : 0 < (endT (linesT xs)).length := by simp [endT,linesT]; omega
 obtain ⟨own,hown⟩ : ∃ own,own = endT (linesT xs) := ⟨_,rfl⟩
 rw [e0,Option.bind_some,save_ok hx.b (by omega),Option.bind_some]
 rw [← hown] at hel hpos ⊢
 have hml : (own.map fun b => (b.toNat : Int)).length = own.length := List.length_map _
 obtain ⟨p,ep,hp⟩ := wide_ok a1 (bytes_ok h1) own.length hpos
 obtain ⟨r,er,r0,r1⟩ := at_ok a1 (bytes_ok h1) 2 255 (by omega)
 have hpi : (p : Int) < (own.length : Int) := by omega
 have hg : (own.map fun b => (b.toNat : Int))[p]? = some ((own[p].toNat : Nat) : Int) := by rw [List.getElem?_map,List.getElem?_eq_getElem hp]; rfl
 have w1 : IntKind.u8.wrap (IntKind.i64.wrap (1 + r)) = ((1 + r.toNat : Nat) : Int) := by rw [w64 (by omega) (by omega),wu8 (by omega) (by omega)]; omega
 have hb := own[p].toNat_lt
 have hx8 := xor8 (a := own[p].toNat) (b := 1 + r.toNat) (by omega) (by omega)
 have er' : laws_r8At a1 2 255 = some r := er
 simp only [hml,ep,Option.bind_some,Int.natCast_nonneg,hpi,decide_true,Bool.and_self,if_true,Int.toNat_natCast,hg,er',w1,hx8]
 have hcl := count_loop xs own own.length ((own[p].toNat : Nat) : Int) ((own.map fun b => (b.toNat : Int)).set p ((own[p].toNat ^^^ (1 + r.toNat) : Nat) : Int)) hp (by omega) p 0 (by omega)
 have z : ((1 + (own.take 0).count 10 : Nat) : Int) = 1 := by simp
 rw [z] at hcl
 refine hcl.trans ?_
 have hxlt : own[p].toNat ^^^ (1 + r.toNat) < 256 := Nat.xor_lt_two_pow (n := 8) (by omega) (by omega)
 have hset : ((own.map fun b => (b.toNat : Int)).set p ((own[p].toNat ^^^ (1 + r.toNat) : Nat) : Int))[p]? = some ((own[p].toNat ^^^ (1 + r.toNat) : Nat) : Int) := by rw [List.getElem?_set_self (by rw [hml]; exact hp)]
 rw [laws_FnSalvage_p0_eq,if_neg (by simp)]
 by_cases k1 : own[p].toNat = 10
 ·rw [if_pos (by rw [k1]; rfl)]
 rw [if_neg (by simp; omega)]
 simp only [Int.natCast_nonneg,hpi,decide_true,Bool.and_self,if_true,Int.toNat_natCast,hset,Option.bind_some]
 by_cases k2 : own[p].toNat ^^^ (1 + r.toNat) = 10
 ·rw [if_pos (by rw [k2]; rfl)]
 rw [if_neg (by rw [beq_iff_eq]; omega)]
 by_cases k3 : (own.take p).count 10 = 0
 ·rw [if_pos (by rw [k3]; rfl)]
 rw [if_neg (by rw [beq_iff_eq]; omega)]
 have hcn : (UInt8.ofNat (own[p].toNat ^^^ (1 + r.toNat))).toNat = own[p].toNat ^^^ (1 + r.toNat) := by
  rw [UInt8.toNat_ofNat']; exact Nat.mod_eq_of_lt (by omega)
 have h8 : ((((own.map fun b => (b.toNat : Int)).set p ((own[p].toNat ^^^ (1 + r.toNat) : Nat) : Int))).take own.length).map vu8 = own.set p (UInt8.ofNat (own[p].toNat ^^^ (1 + r.toNat))) := by
  rw [List.take_of_length_le (by rw [List.length_set,hml]; exact Nat.le_refl _),List.map_set,List.map_map]
  have e1 : vu8 ∘ (fun b : UInt8 => (b.toNat : Int)) = id := by
   funext b
   show vu8 (b.toNat : Int) = b
   rw [vu8,Int.toNat_natCast]; exact UInt8.ofNat_toNat
  rw [e1,List.map_id,vu8,Int.toNat_natCast]
 subst hown
 refine salvage_law hx.b lx hp (c := UInt8.ofNat ((endT (linesT xs))[p].toNat ^^^ (1 + r.toNat))) (fun e => k1 (by rw [e]; rfl)) (fun e => ?_) (fun e => ?_) k3 h8
 ·have := congrArg UInt8.toNat e
  rw [hcn] at this
  exact xor_ne (by omega) this
 ·have := congrArg UInt8.toNat e
  rw [hcn] at this
  exact k2 this
end Go.Ab.P
