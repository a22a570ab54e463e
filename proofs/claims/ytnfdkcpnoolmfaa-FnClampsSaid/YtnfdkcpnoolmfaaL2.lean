/- The abstract interpreter and its soundness, second part. Conditions: none. -/
import Derived.Test.YtnfdkcpnoolmfaaL1
import Derived.Deep.MidRow
import Derived.Deep.AppendSrc
import Derived.Orders
set_option linter.unusedVariables false
set_option linter.unusedSimpArgs false
namespace Go.Ab
section
variable {P : Program} {φ : Nat → Nat} {w0 : World} {L : Lent} {E E' : Env} {st st' : St} {ev ev' : Nat → Value} {w w' : World} {r r' : Nat → Option Root} {a : Act}
theorem room_setCell {w : World} {b n : Nat} {ad : Addr} {v : Value} (h : Room w b n) : Room (w.setCell ad v) b n := by
 obtain ⟨C,e,fr,h1,h2,h3⟩ := h
 by_cases hb : ad.block = b
 ·refine ⟨if ad.spot.isSome then C else C.setIfInBounds ad.off v,e,fr,?_,?_,fun off ho => ?_⟩
  ·simp only [World.setCell,hb]
   rw [Array.getElem?_modify,h1]
   simp
  ·split <;> simpa using h2
  ·rw [World.frozen?_setCell]
   refine h3 off ?_
   split at ho <;> simpa using ho
 ·have : (w.setCell ad v).heap[b]? = w.heap[b]? := by
   simp only [World.setCell]
   rw [Array.getElem?_modify]
   simp [hb]
  exact Room.of_block this ⟨C,e,fr,h1,h2,h3⟩
theorem setCells_facts (b : Nat) : ∀ (vs : List Value) (o : Nat) (w : World),(∀ b',b' ≠ b → (w.setCells b o vs).heap[b']? = w.heap[b']?) ∧ (w.setCells b o vs).heap.size = w.heap.size ∧
 ((w.setCells b o vs).os = w.os ∧ (w.setCells b o vs).output = w.output) ∧ (∀ n,Room w b n → Room (w.setCells b o vs) b n)
 | [],o,w => ⟨fun _ _ => rfl,rfl,⟨rfl,rfl⟩,fun _ h => h⟩
 | v :: vs,o,w => by
   obtain ⟨h1,h2,h3,h4⟩ := setCells_facts b vs (o + 1) (w.setCell ⟨b,o,none⟩ v)
   refine ⟨fun b' hb => ?_,?_,?_,fun n hn => h4 n (room_setCell hn)⟩
   ·rw [World.setCells,h1 b' hb]
    simp only [World.setCell]
    rw [Array.getElem?_modify]
    have : ¬ b = b' := fun e => hb e.symm
    simp [this]
   ·rw [World.setCells,h2]; simp [World.setCell]
   ·rw [World.setCells]; exact h3
theorem Wr.cells {b o : Nat} {vs : List Value} (hn : ¬ E.ok b) (hz : Zone w0 L b) (sh : ∀ q R',r' q = some R' → ∃ R,r q = some R ∧ R'.b = R.b ∧ R'.z = R.z ∧ R'.xs.length = R.xs.length) :
 Wr w0 L E r r' w (w.setCells b o vs) b := by
 obtain ⟨h1,h2,h3,h4⟩ := setCells_facts b vs o w
 exact ⟨h1,h2,h3,fun off => World.frozen?_setCells b vs o w _,h4,hn,hz,sh⟩
theorem Room.cell {b n : Nat} (h : Room w b n) {j : Nat} (hj : j < n) : (w.cell? ⟨b,j,none⟩).isSome = true ∧ w.frozen? ⟨b,j,none⟩ = false := by
 obtain ⟨C,e,fr,h1,h2,h3⟩ := h
 refine ⟨?_,h3 j (by omega)⟩
 simp only [World.cell?,h1]
 simp
 omega
theorem Cells.write {b o : Nat} {vs news : List Value} {c : Nat} (hv : Cells w b o vs) (hr : Room w b (o + vs.length)) (hc : c + news.length ≤ vs.length) :
 Cells (w.setCells b (o + c) news) b o (vs.take c ++ news ++ vs.drop (c + news.length)) := fun j v hj => by
 rcases Nat.lt_or_ge j c with h1 | h1
 ·rw [World.cell?_setCells_out b news (o + c) w ⟨b,o + j,none⟩ (fun _ _ => .inl (by simp; omega))]
  refine hv j v ?_
  rw [List.append_assoc,List.getElem?_append_left (by simp; omega)] at hj
  rw [List.getElem?_take,if_pos h1] at hj
  exact hj
 ·rcases Nat.lt_or_ge j (c + news.length) with h2 | h2
  ·have hin := World.cell?_setCells_in b news (o + c) w (fun i hi => (hr.cell (by omega)).1) (j - c) (by omega)
   rw [show o + c + (j - c) = o + j from by omega] at hin
   rw [hin]
   rw [List.append_assoc,List.getElem?_append_right (by simp; omega),List.getElem?_append_left (by simp; omega)] at hj
   have : (vs.take c).length = c := by simp; omega
   rw [this,List.getElem?_eq_getElem (by omega)] at hj
   exact hj
  ·rw [World.cell?_setCells_out b news (o + c) w ⟨b,o + j,none⟩ (fun _ _ => .inr (by simp; omega))]
   refine hv j v ?_
   have hl : (vs.take c ++ news).length = c + news.length := by simp; omega
   rw [List.getElem?_append_right (by rw [hl]; exact h2),hl] at hj
   simpa [show c + news.length + (j - (c + news.length)) = j from by omega] using hj
theorem Value.one_cell {v : Value} (h : (∀ cs,v ≠ .agg cs) ∧ ∀ vs,v ≠ .tuple vs) : v.oneCell' = true := by
 cases v <;> first | rfl | exact absurd rfl (h.1 _) | exact absurd rfl (h.2 _)
theorem run_storeVar_cells {t : TypeId} {b o n : Nat} {v : Value} (ht : szIs P t n = true) (hl : v.cells.size = n) (h1 : ∀ u ∈ v.cells.toList,u.oneCell' = true) (hr : Room w b (o + n)) :
 (storeVar t ⟨b,o,none⟩ v).run P w = .ok () (w.setCells b o v.cells.toList) := by
 obtain ⟨i,hi,hs⟩ := szIs_spec ht
 have hst := run_storeCells_cells (P := P) b o v.cells.toList 0 w (fun j hj => by simpa using (hr.cell (by simp at hj; omega)).1) (fun j hj => by simpa using (hr.cell (by simp at hj; omega)).2) h1
 simp only [Nat.add_zero] at hst
 simp [storeVar,sizeOf,typeInfo,hi,hl,hs,hst]
theorem reCell_cells {old : A} {cs : List A} (hl : cs.length = old.cells.length) (hn : ∀ y ∈ cs,∀ l,y ≠ .agg l) : (reCell old cs).cells = cs := by
 by_cases ho : ∃ l,old = .agg l
 ·obtain ⟨l,rfl⟩ := ho; rfl
 ·have ho' : ∀ l,old ≠ .agg l := fun l e => ho ⟨l,e⟩
  rw [A.cells_one ho'] at hl
  have : reCell old cs = cs.headD .any := by cases old <;> first | rfl | exact absurd rfl (ho' _)
  rw [this]
  match cs,hl with
  | [y],_ => exact A.cells_one (hn y (List.mem_singleton.2 rfl))
theorem CellOk.nagg {q c : Nat} {v : Value} {x : A} (h : CellOk φ E r w q c v x) (l : List A) : x ≠ .agg l := by
 cases h with
 | data _ h ha => exact ha l
 | any => exact fun e => by cases e
 | view => exact fun e => by cases e
theorem SimE.noRef_lt (h : SimE φ w0 L E st ev w) {d : Nat} (hd : d < 1000) : ∀ p' R',st.r p' = some R' → R'.b = true → ∀ x ∈ R'.xs,∀ y ∈ x.cells,refs1 d y = false := fun p' R' hp hb x hx y hy => by
 cases hr : refs1 d y with
 | false => rfl
 | true =>
   obtain ⟨c,_,e,_⟩ := h.cell_ref hp hb hx hy hr
   have := sub_ge p' c
   omega
theorem SimE.box (h : SimE φ w0 L E st ev w) {d z b o : Nat} {x : A} {vs : List Value} (hd : d < 1000) (hpl : ∀ p',L.pl d = some p' → p' = (b,o)) (hF : Fresh w0 L E st ev w b) (hz : x.cells.length = z) (hl : vs.length = x.cells.length)
 (hcells : ∀ (c : Nat) (v : Value) (a : A),vs[c]? = some v → x.cells[c]? = some a → CellOk φ E st.r w d c v a) (hv : Cells w b o vs) (hr : Room w b (o + z)) :
 SimE φ w0 L ⟨E.ok,fun i => if i = d then some (b,o) else E.ρ i⟩ ((st.kill d).setRoot d (some ⟨true,z,[x]⟩)) ev w := by
 have h1 := (h.kill d).unroot d
 rw [← setRoot_twice]
 refine h1.root (p := some (b,o)) (by simp [St.setRoot]) (fun i => refs_kill d _) (h1.noRef_lt hd) (fun b' o' e => ?_) (fun p' e => by rw [hpl p' e]) ?_
 ·cases e
  refine ⟨hF.z,fun q' b' o' a1 a2 => hF.r q' b' o' ?_ a2,fun i k b' a1 => hF.t i k b' (Tk.comps (fd_kill d) a1).1⟩
  simp only [St.setRoot] at a1
  split at a1
  ·cases a1
  ·exact a1
 ·refine .box b o z x vs (by simp) hz hd hl (fun c v a h2 h3 => ?_) hv hr
  cases hcells c v a h2 h3 with
  | data _ h ha => exact .data _ _ h ha
  | any h => exact .any _ h
  | view off n hc h hv =>
    have hne : sub d c ≠ d := by have := sub_ge d c; omega
    refine .view _ _ _ hc (h.weakView fun R hR => ⟨?_,if_neg hne⟩) hv
    simpa [St.setRoot,St.kill,St.map,hne] using hR
theorem loc_new (h : Sim φ w0 L E st a w) {d b : Nat} {R : Root} (hR : st.r d = some R) (hρ : E.ρ d = some (b,0)) (hd : d < a.tmps.size) :
 Sim φ w0 L E (st.put (some d) (.loc d 0 0)) (a.put (some d) (.pointer (some ⟨b,0,none⟩))) w := by
 have hrv : RV1 φ E st.r w (.pointer (some ⟨b,0,none⟩)) (.loc d 0 0) := by
  have := RV1.loc (φ := φ) (E := E) (r := st.r) (w := w) b 0 d 0 0 R hR hρ
  simpa using this
 exact h.put hd (.one _ _ hrv) ((Copy.scalar noTk_loc).tok h)
section
variable {o : Oper} {next : Act → World → Prop} {Q : Exit → Act → World → Prop} {cf : CF} {io : Nat → List Bool}
theorem w_asg (h : Sim φ w0 L E st a w) {y : Operand} {y' : Opd} (ho : o.op = .assign y) (hc : chkOpd φ y y' = true) (hd : ∀ i,o.dst = some i → i < a.tmps.size) (hdl : ∀ i,o.dst = some i → L.pl i = none) (he : stepW cf io o.dst st (.asg y') = some st')
 (hn : ∀ E' v w',Sim φ w0 L E' st' (a.put o.dst v) w' → next (a.put o.dst v) w') : o.wp P a w next Q := by
 have hy := opd_ok h hc
 have hrun : (execOp a.eval o).run P w = .ok (.value (a.eval y)) w := by simp [execOp,ho]
 unfold Oper.wp
 rw [hrun,Oper.upon_value]
 simp only [stepW] at he
 split at he
 ·rename_i d k z xs e1 e2
  split at he
  ·rename_i hlt
   simp only [Option.some.injEq] at he; subst he
   rw [e1] at hn ⊢
   rw [e2] at hy
   obtain ⟨E1,h1,_,h2⟩ := h.toSimE.rootTok (q := d) hy.1.tok_inv (fun b ht => hy.2 k b (.one _ _ _ _ ht)) (hdl d e1) (h.noRef_lt hlt)
   have h3 : Sim φ w0 L E1 (((st.killTok k).kill d).setRoot d (some ⟨false,z,xs⟩)) a w := ⟨h1,h.nodef⟩
   exact hn E1 _ w (h3.put (hd d e1) (.one _ _ h2) ((Copy.scalar noTk_view).tok h3))
  ·cases he
 ·rename_i d z e1 e2
  split at he
  ·rename_i hlt
   simp only [Option.some.injEq] at he; subst he
   rw [e1] at hn ⊢
   rw [e2] at hy
   rw [hy.1.nils_inv]
   have h1 := (h.toSimE.kill d).unroot d
   have h2 := h1.root (p := none) (R := ⟨false,z,[]⟩) (by simp [St.setRoot]) (fun i => refs_kill d _) (h1.noRef_lt hlt) (fun _ _ e => by cases e) (fun p' e => by rw [hdl d e1] at e; cases e) (.empty z (by simp))
   rw [setRoot_twice] at h2
   have h3 : Sim φ w0 L _ ((st.kill d).setRoot d (some ⟨false,z,[]⟩)) a w := ⟨h2,h.nodef⟩
   exact hn _ _ w (h3.put (hd d e1) (.one _ _ (.viewE none d 0 ⟨false,z,[]⟩ (by simp [St.setRoot]) rfl (Nat.zero_le _))) ((Copy.scalar noTk_view).tok h3))
  ·cases he
 ·simp only [Option.some.injEq] at he; subst he
  exact hn E _ w (h.put' hd hy.1 (hy.2.tok h))
theorem fresh_new (h : SimE φ w0 L E st ev w) {C : Array Value} {e : TypeId} (hh : w'.heap = w.heap.push (.cells C e)) : Fresh w0 L E st ev w' w.heap.size :=
 ⟨⟨fun hk => Nat.lt_irrefl _ (h.okz _ hk),.inl h.grow,by rw [hh]; simp⟩,fun q b' o a1 a2 e => by have := (h.rz q b' o a1 a2).2.2; omega,fun i k b' a1 e => by have := (h.tz i k b' a1).1.2.2; omega⟩
theorem w_alloc (h : Sim φ w0 L E st a w) {t : TypeId} {z : Nat} {zero : A} (ho : o.op = .alloc t) (hc : chkZ P t z zero = true) (hd : ∀ i,o.dst = some i → i < a.tmps.size) (hdl : ∀ i,o.dst = some i → L.pl i = none) (he : stepW cf io o.dst st (.alloc z zero) = some st')
 (hn : ∀ E' v w',Sim φ w0 L E' st' (a.put o.dst v) w' → next (a.put o.dst v) w') : o.wp P a w next Q := by
 simp only [stepW] at he
 split at he
 ·rename_i d e1
  split at he
  ·rename_i hcond
   obtain ⟨hzl,hlt,hp⟩ := hcond
   simp only [Option.some.injEq] at he; subst he
   obtain ⟨i,v,hi,hs,hzero,hcs,hvz⟩ := chkZ_spec hc
   have hrun : (execOp a.eval o).run P w = .ok (.value (.pointer (some ⟨w.heap.size,0,none⟩))) (w.alloc (.cells v.cells t)) := by
    simp [execOp,ho,Instr.alloc,zeroValue,typeInfo,hi,hzero,newVar,newRow]
   unfold Oper.wp
   rw [hrun,Oper.upon_value,e1]
   have hh : (w.alloc (.cells v.cells t)).heap = w.heap.push (.cells v.cells t) := rfl
   have hext := ext_push hh ⟨rfl,rfl⟩
   have h1 := h.toSimE.ext hext (.refl E w _)
   have hreps : Reps φ (w.alloc (.cells v.cells t)) E.ok v.cells.toList zero.cells := chkCs_reps hcs
   have h2 := h1.box (d := d) (z := z) (o := 0) (x := zero) (vs := v.cells.toList) hlt (fun p' e => by rw [hdl d e1] at e; cases e) (fresh_new h.toSimE hh) hzl hreps.length (fun c u x hu hx => by
    obtain ⟨u',hu',hr⟩ := hreps.get hx
    rw [hu] at hu'; cases hu'
    exact .data _ _ hr (pureC_nagg (List.all_eq_true.1 hp x (List.mem_of_getElem? hx)))) (cells_push hh) ((room_push hh).le (by omega))
   rw [e1] at hn
   exact hn _ _ _ (loc_new ⟨h2,h.nodef⟩ (R := ⟨true,z,[zero]⟩) (by simp [St.setRoot]) (by simp) (hd d e1))
  ·cases he
 ·cases he
theorem w_box (h : Sim φ w0 L E st a w) {t : TypeId} {z : Nat} {y : Operand} {y' : Opd} (ho : o.op = .box t y) (hc : chkOpd φ y y' = true) (hd : ∀ i,o.dst = some i → i < a.tmps.size) (hdl : ∀ i,o.dst = some i → L.pl i = none) (he : stepW cf io o.dst st (.box z y') = some st')
 (hn : ∀ E' v w',Sim φ w0 L E' st' (a.put o.dst v) w' → next (a.put o.dst v) w') : o.wp P a w next Q := by
 simp only [stepW] at he
 split at he
 ·rename_i d e1
  split at he
  ·rename_i hcond
   obtain ⟨hlt,hz1000,hzl,hsol⟩ := hcond
   obtain ⟨⟨cs,st1⟩,ha,he⟩ := Option.map_eq_some_iff.1 he
   subst he
   have hrun : (execOp a.eval o).run P w = .ok (.value (.pointer (some ⟨w.heap.size,0,none⟩))) (w.alloc (.cells (a.eval y).cells t)) := by
    simp [execOp,ho,Instr.box,newVar,newRow]
   unfold Oper.wp
   rw [hrun,Oper.upon_value,e1]
   rw [e1] at hn
   have hy := opd_ok h hc
   have hsz : (a.eval y).cells.size = z := by
    have := (solid_cells (a := a) hy.1 hy.2 hsol).1
    simp at this; omega
   have hh : (w.alloc (.cells (a.eval y).cells t)).heap = w.heap.push (.cells (a.eval y).cells t) := rfl
   have hext := ext_push hh ⟨rfl,rfl⟩
   have h1 := ((h.toSimE.putG hy.1 hy.2 gs).kill d).unroot d
   obtain ⟨E1,h2,hst,hl,hall⟩ := h1.absorbs ha (by omega) (fun c' a1 a2 p' R' hp hb x hx y hy => by
    cases hr : refs1 (sub d c') y with
    | false => rfl
    | true =>
      obtain ⟨c2,hc2,e2,_⟩ := h1.cell_ref hp hb hx hy hr
      have e3 := (sub_inj (by omega) hc2 e2).1
      simp [St.setRoot,← e3] at hp)
   have h3 := (h2.dropG).ext hext (.refl E1 w _)
   have hcell : ∀ (c : Nat) (u : Value) (x : A),(a.eval y).cells.toList[c]? = some u → cs[c]? = some x → CellOk φ E1 (st1.put' gs .any).r (w.alloc (.cells (a.eval y).cells t)) d c u x := fun c u x hu hx => by
    obtain ⟨u',hu',hcl⟩ := hall c x hx
    simp only [evG,if_true,Nat.zero_add] at hu'
    have : u' = u := by
     have h5 : (a.eval y).cells.toList[c]? = (a.eval y).cells[c]? := by simp
     rw [h5,hu'] at hu; exact Option.some.inj hu
    subst this
    simp only [Nat.zero_add] at hcl
    exact hcl.ext hext.same (fun _ h => h) rfl h2.okz
   have hna : ∀ x ∈ cs,∀ l,x ≠ .agg l := fun x hx => by
    obtain ⟨c,hc⟩ := List.mem_iff_getElem?.1 hx
    obtain ⟨u',hu',hcl⟩ := hall c x hc
    exact hcl.nagg
   have hrc : (reCell (y'.v st) cs).cells = cs := reCell_cells (by rw [hl,hzl]) hna
   have h4 := h3.box (d := d) (z := z) (o := 0) (x := reCell (y'.v st) cs) (vs := (a.eval y).cells.toList) hlt (fun p' e => by rw [hdl d e1] at e; cases e) (fresh_new h2.dropG hh) (by rw [hrc,hl]) (by rw [hrc,hl]; simpa using hsz)
    (fun c u x hu hx => hcell c u x hu (by rw [hrc] at hx; exact hx)) (cells_push hh) ((room_push hh).le (by omega))
   exact hn _ _ _ (loc_new ⟨h4,h.nodef⟩ (R := ⟨true,z,[reCell (y'.v st) cs]⟩) (by simp [St.setRoot]) (by simp) (hd d e1))
  ·cases he
 ·cases he
end
end
end Go.Ab
namespace Go.Ab
section
variable {P : Program} {φ : Nat → Nat} {w0 : World} {L : Lent} {E E' : Env} {st st' : St} {ev ev' : Nat → Value} {w w' : World} {r r' : Nat → Option Root} {a : Act}
theorem CellOk.one {q c : Nat} {v : Value} {x : A} (h : CellOk φ E r w q c v x) : (∀ cs,v ≠ .agg cs) ∧ (∀ vs,v ≠ .tuple vs) := by
 cases h with
 | data _ h ha => exact h.oneCell ha
 | any h => exact h
 | view _ _ _ _ h => exact h
theorem mid_get {α : Type} {l m k : List α} {j : Nat} : (l ++ m ++ k)[j]? = if j < l.length then l[j]? else if j < l.length + m.length then m[j - l.length]? else k[j - (l.length + m.length)]? := by
 rw [List.append_assoc]
 split
 ·rename_i h; rw [List.getElem?_append_left h]
 ·rename_i h
  rw [List.getElem?_append_right (by omega)]
  split
  ·rename_i h2; rw [List.getElem?_append_left (by omega)]
  ·rename_i h2
   rw [List.getElem?_append_right (by omega)]
   congr 1; omega
theorem blank_cells {e : A} {c n : Nat} (hn : ∀ y ∈ e.cells,∀ l,y ≠ .agg l) (hc : c + n ≤ e.cells.length) : (blank e c n).cells = e.cells.take c ++ List.replicate n .any ++ e.cells.drop (c + n) := by
 refine reCell_cells (by simp; omega) fun y hy l => ?_
 rcases List.mem_append.1 hy with hy | hy
 ·rcases List.mem_append.1 hy with hy | hy
  ·exact hn y (List.mem_of_mem_take hy) l
  ·rw [List.eq_of_mem_replicate hy]; exact fun e => by cases e
 ·exact hn y (List.mem_of_mem_drop hy) l
theorem SimE.reroot (h : SimE φ w0 L E st ev w) {q b o : Nat} {R R' : Root} (hR : st.r q = some R) (hρ : E.ρ q = some (b,o)) (hs : R'.b = R.b ∧ R'.z = R.z ∧ R'.xs.length = R.xs.length)
 (hok : RootOk φ E (st.setRoot q (some R')).r w q R') : SimE φ w0 L E (st.setRoot q (some R')) ev w := by
 have hq := h.rz q b o (by rw [hR]; rfl) hρ
 have W : Wr w0 L E st.r (st.setRoot q (some R')).r w w b := ⟨fun _ _ => rfl,rfl,⟨rfl,rfl⟩,fun _ => rfl,fun _ h => h,hq.1,hq.2.1,fun p R1 hp => by
  by_cases e : p = q
  ·subst e
   simp [St.setRoot] at hp; subst hp
   exact ⟨R,hR,hs⟩
  ·simp [St.setRoot,e] at hp
   exact ⟨R1,hp,rfl,rfl,rfl⟩⟩
 refine h.write W (fun i k ht => (h.tz i k b ht).2 q b o (by rw [hR]; rfl) hρ rfl) fun p R1 hp => ?_
 by_cases e : p = q
 ·subst e
  simp [St.setRoot] at hp; subst hp
  exact .inr hok
 ·simp [St.setRoot,e] at hp
  exact .inl ⟨hp,fun o' hρ' => h.inj p q b o' b o (by rw [hp]; rfl) (by rw [hR]; rfl) hρ' hρ e rfl⟩
theorem SimE.writeRoot (h : SimE φ w0 L E st ev w) {q b o o' : Nat} {R R' : Root} {news : List Value} (hR : st.r q = some R) (hρ : E.ρ q = some (b,o)) (hs : R'.b = R.b ∧ R'.z = R.z ∧ R'.xs.length = R.xs.length)
 (hok : Wr w0 L E st.r (st.setRoot q (some R')).r w (w.setCells b o' news) b → RootOk φ E (st.setRoot q (some R')).r (w.setCells b o' news) q R') : SimE φ w0 L E (st.setRoot q (some R')) ev (w.setCells b o' news) := by
 have hq := h.rz q b o (by rw [hR]; rfl) hρ
 have W : Wr w0 L E st.r (st.setRoot q (some R')).r w (w.setCells b o' news) b := Wr.cells hq.1 hq.2.1 fun p R1 hp => by
  by_cases e : p = q
  ·subst e
   simp [St.setRoot] at hp; subst hp
   exact ⟨R,hR,hs⟩
  ·simp [St.setRoot,e] at hp
   exact ⟨R1,hp,rfl,rfl,rfl⟩
 refine h.write W (fun i k ht => (h.tz i k b ht).2 q b o (by rw [hR]; rfl) hρ rfl) fun p R1 hp => ?_
 by_cases e : p = q
 ·subst e
  simp [St.setRoot] at hp; subst hp
  exact .inr (hok W)
 ·simp [St.setRoot,e] at hp
  exact .inl ⟨hp,fun o' hρ' => h.inj p q b o' b o (by rw [hp]; rfl) (by rw [hR]; rfl) hρ' hρ e rfl⟩
theorem flat_cell {xs : List A} {z : Nat} (hz : ∀ x ∈ xs,x.cells.length = z) {i c : Nat} {e e' : A} {V : List A} (he : xs[i]? = some e) (hc : c + V.length ≤ z) (he' : e'.cells = e.cells.take c ++ V ++ e.cells.drop (c + V.length)) :
 (xs.set i e').flatMap A.cells = (xs.flatMap A.cells).take (i * z + c) ++ V ++ (xs.flatMap A.cells).drop (i * z + c + V.length) := by
 have hi : i < xs.length := by
  rcases Nat.lt_or_ge i xs.length with h | h
  ·exact h
  ·simp [List.getElem?_eq_none h] at he
 have hez : e.cells.length = z := hz e (List.mem_of_getElem? he)
 have hez' : e'.cells.length = z := by rw [he']; simp; omega
 have hat := flat_at hz he
 rw [hez] at hat
 rw [flat_set hz hez' hi,he']
 generalize xs.flatMap A.cells = F at hat ⊢
 have hln : ((F.drop (i * z)).take z).length = z := by rw [← hat]; exact hez
 rw [hat]
 have h1 : ((F.drop (i * z)).take z).take c = (F.drop (i * z)).take c := by rw [List.take_take]; congr 1; omega
 have h2 : ((F.drop (i * z)).take z).drop (c + V.length) ++ F.drop (i * z + z) = F.drop (i * z + c + V.length) := by
  rw [← List.drop_drop (i := z) (j := i * z),← List.drop_append_of_le_length (by rw [hln]; exact hc),List.take_append_drop,List.drop_drop,Nat.add_assoc]
 rw [h1,List.take_add]
 simp only [List.append_assoc]
 rw [h2]
section
variable {o : Oper} {next : Act → World → Prop} {Q : Exit → Act → World → Prop} {cf : CF} {io : Nat → List Bool}
theorem w_sto (h : Sim φ w0 L E st a w) {t : TypeId} {n : Nat} {y v : Operand} {y' v' : Opd} (ho : o.op = .store t y v) (hc : chkOpd φ y y' = true) (hc2 : chkOpd φ v v' = true) (ht : szIs P t n = true)
 (hd : ∀ i,o.dst = some i → i < a.tmps.size) (he : stepW cf io o.dst st (.sto n y' v') = some st')
 (hn : ∀ E' v w',Sim φ w0 L E' st' (a.put o.dst v) w' → next (a.put o.dst v) w') : o.wp P a w next Q := by
 have hy := opd_ok h hc
 have hv := opd_ok h hc2
 simp only [stepW] at he
 split at he
 ·rename_i hvl
  split at he
  ·rename_i q i c hyv
   rw [hyv] at hy
   obtain ⟨R,hR,he⟩ := Option.bind_eq_some_iff.1 he
   obtain ⟨b,o0,hρ,hye⟩ := hy.1.loc_inv.loc_at hR
   have run : ∀ {m : Nat},(a.eval v).cells.size = n → (∀ u ∈ (a.eval v).cells.toList,u.oneCell' = true) → Room w b m → o0 + i * R.z + c + n ≤ m → (execOp a.eval o).run P w = .ok .skip (w.setCells b (o0 + i * R.z + c) (a.eval v).cells.toList) := by
    intro m h1 h2 h3 h4
    simp only [execOp,ho,Instr.storeAt,Instr.sureAddr,hye,Sem.run_bind,Sem.run_pure,Result.andThen_ok,run_storeVar_cells ht h1 h2 (h3.le h4)]
   split at he
   ·
    rename_i e hb hxs _
    split at he
    ·rename_i hcond
     obtain ⟨hlt,hce,hc1000,hsol⟩ := hcond
     obtain ⟨⟨cs,st1⟩,ha,he⟩ := Option.map_eq_some_iff.1 he
     subst he
     obtain ⟨Rb,Rz,Rxs⟩ := R
     simp only at hb hxs run hR ha hn
     subst hb; subst hxs
     have hsz : (a.eval v).cells.size = n := by
      have := (solid_cells (a := a) hv.1 hv.2 hsol).1
      simp at this; omega
     have hG := h.toSimE.putG hv.1 hv.2 gs
     have hro := hG.roots q _ hR
     have hnag : ∀ y ∈ e.cells,∀ l,y ≠ .agg l := by
      cases hro with
      | box b o z _ vs hρ hz hlt hl hh hv hrm =>
        intro y hy l
        obtain ⟨j,hj⟩ := List.mem_iff_getElem?.1 hy
        have hjl : j < vs.length := by
         rw [hl]; rcases Nat.lt_or_ge j e.cells.length with h' | h'
         ·exact h'
         ·simp [List.getElem?_eq_none h'] at hj
        exact (hh j vs[j] y (by simp) hj).nagg l
     have hbc := blank_cells hnag hce
     have hzl : Rz = e.cells.length := by cases hro with | box b o z x vs hρ hz hlt hl hh hv hrm => exact hz.symm
     have hblen : (blank e c n).cells.length = e.cells.length := by rw [hbc]; simp; omega
     have hB : SimE φ w0 L E ((st.put' gs (v'.v st)).setRoot q (some ⟨true,Rz,[blank e c n]⟩)) (evG (fun i => a.eval (.tmp i)) gs (a.eval v)) w := by
      refine hG.reroot (b := b) (o := o0) hR hρ ⟨rfl,rfl,rfl⟩ ?_
      cases hro with
      | box b1 o1 z x vs hρ1 hz hlt hl hh hv1 hrm =>
        refine .box b1 o1 Rz (blank e c n) vs hρ1 (by rw [hblen]; exact hz) hlt (by rw [hblen]; exact hl) (fun j u x hu hx => ?_) hv1 hrm
        rw [hbc,mid_get] at hx
        have hj : j < e.cells.length := by
         rw [← hl]; rcases Nat.lt_or_ge j vs.length with h' | h'
         ·exact h'
         ·simp [List.getElem?_eq_none h'] at hu
        have old : ∀ {x},e.cells[j]? = some x → CellOk φ E ((st.put' gs (v'.v st)).setRoot q (some ⟨true,Rz,[blank e c n]⟩)).r w q j u x := fun {x} hx => by
         cases hh j u x hu hx with
         | data _ h ha => exact .data _ _ h ha
         | any h => exact .any _ h
         | view off n hc h hv =>
           have hne : sub q j ≠ q := by have := sub_ge q j; omega
           exact .view _ _ _ hc (h.weakView fun R hR => ⟨by simpa [St.setRoot,hne] using hR,rfl⟩) hv
        have hone := (hh j u e.cells[j] hu (by simp)).one
        simp only [List.length_take,List.length_replicate] at hx
        rw [Nat.min_eq_left (by omega)] at hx
        split at hx
        ·rename_i h1
         rw [List.getElem?_take,if_pos h1] at hx
         exact old hx
        ·split at hx
         ·rw [List.getElem?_replicate] at hx
          split at hx
          ·cases hx; exact .any _ hone
          ·cases hx
         ·rw [List.getElem?_drop,show c + n + (j - (c + n)) = j from by omega] at hx
          exact old hx
     obtain ⟨E1,h2,hst,hl,hall⟩ := hB.absorbs ha (by omega) (fun c' a1 a2 p' R' hp hb x hx y hy => by
      cases hr : refs1 (sub q c') y with
      | false => rfl
      | true =>
        obtain ⟨c2,hc2,e2,hx2⟩ := hB.cell_ref hp hb hx hy hr
        obtain ⟨e3,e4⟩ := sub_inj (by omega) hc2 e2
        subst e3; subst e4
        simp [St.setRoot] at hp; subst hp
        rw [List.mem_singleton] at hx; subst hx
        rw [hbc,mid_get] at hx2
        simp only [List.length_take,List.length_replicate] at hx2
        rw [Nat.min_eq_left (by omega),if_neg (by omega),if_pos (by omega),List.getElem?_replicate,if_pos (by omega)] at hx2
        cases hx2; cases hr)
     have hqS : ¬ ∃ c',c + 0 ≤ c' ∧ c' < c + 0 + n ∧ q = sub q c' := fun ⟨c',_,_,e⟩ => by have := sub_ge q c'; omega
     have hq1 : st1.r q = some ⟨true,Rz,[blank e c n]⟩ := hst.b q _ hqS (by simp [St.setRoot]) rfl
     have hρ1 : E1.ρ q = some (b,o0) := (hst.ρ q hqS).trans hρ
     have hone : ∀ u ∈ (a.eval v).cells.toList,u.oneCell' = true := fun u hu => by
      obtain ⟨j,hj⟩ := List.mem_iff_getElem?.1 hu
      have hjl : j < cs.length := by
       rw [hl,← hsz]
       rcases Nat.lt_or_ge j (a.eval v).cells.size with h' | h'
       ·exact h'
       ·simp [h'] at hj
      obtain ⟨u',hu',hcl⟩ := hall j cs[j] (by simp)
      simp only [evG,if_true,Nat.zero_add] at hu'
      have : u' = u := by
       have h5 : (a.eval v).cells.toList[j]? = (a.eval v).cells[j]? := by simp
       rw [h5,hu'] at hj; exact Option.some.inj hj
      subst this
      exact Value.one_cell hcl.one
     have h3 := h2.dropG
     have hro1 := h3.roots q _ hq1
     unfold Oper.wp
     cases hro1 with
     | box b1 o1 z x vs hρ2 hz hlt hl2 hh hv1 hrm =>
       rw [hρ1] at hρ2; cases hρ2
       have hi0 : o0 + 0 * Rz + c = o0 + c := by omega
       rw [run hsz hone hrm (by omega),Oper.upon_skip,hi0]
       have hcc : (reCell e (e.cells.take c ++ cs ++ e.cells.drop (c + n))).cells = e.cells.take c ++ cs ++ e.cells.drop (c + n) := by
        refine reCell_cells (by simp; omega) fun y hy l => ?_
        rcases List.mem_append.1 hy with hy | hy
        ·rcases List.mem_append.1 hy with hy | hy
         ·exact hnag y (List.mem_of_mem_take hy) l
         ·obtain ⟨j,hj⟩ := List.mem_iff_getElem?.1 hy
          obtain ⟨u',hu',hcl⟩ := hall j y hj
          exact hcl.nagg l
        ·exact hnag y (List.mem_of_mem_drop hy) l
       have hnl : (a.eval v).cells.toList.length = n := by simpa using hsz
       have hvl2 : vs.length = e.cells.length := by rw [hl2,hblen]
       have h4 := h3.writeRoot (b := b) (o := o0) (o' := o0 + c) (R' := ⟨true,Rz,[reCell e (e.cells.take c ++ cs ++ e.cells.drop (c + n))]⟩) (news := (a.eval v).cells.toList) hq1 hρ1 ⟨rfl,rfl,rfl⟩ (fun W => by
        have hwr := Cells.write (news := (a.eval v).cells.toList) (c := c) hv1 (by rw [hvl2,← hzl]; exact hrm) (by rw [hnl,hvl2]; exact hce)
        refine .box b o0 Rz _ _ hρ1 (by rw [hcc]; simp; omega) hlt (by rw [hcc]; simp; omega) (fun j u x hu hx => ?_) hwr (W.room _ hrm)
        rw [hcc,mid_get] at hx
        rw [mid_get] at hu
        simp only [List.length_take] at hx hu
        rw [Nat.min_eq_left (by omega)] at hx hu
        rw [hnl] at hu
        rw [hl] at hx
        have old : ∀ {x},vs[j]? = some u → e.cells[j]? = some x → (j < c ∨ c + n ≤ j) → CellOk φ E1 st1.r w q j u x := fun {x} h5 h6 h7 => by
         refine hh j u x h5 ?_
         rw [hbc,mid_get]
         simp only [List.length_take,List.length_replicate]
         rw [Nat.min_eq_left (by omega)]
         rcases h7 with h7 | h7
         ·rw [if_pos h7,List.getElem?_take,if_pos h7]; exact h6
         ·rw [if_neg (by omega),if_neg (by omega),List.getElem?_drop,show c + n + (j - (c + n)) = j from by omega]; exact h6
        split at hx
        ·rename_i h5
         rw [if_pos h5] at hu
         rw [List.getElem?_take,if_pos h5] at hx hu
         exact (old hu hx (.inl h5)).write W
        ·rename_i h5
         rw [if_neg h5] at hu
         split at hx
         ·rename_i h6
          rw [if_pos h6] at hu
          obtain ⟨u',hu',hcl⟩ := hall (j - c) x hx
          simp only [evG,if_true,Nat.zero_add] at hu'
          have : u' = u := by
           have h5 : (a.eval v).cells.toList[j - c]? = (a.eval v).cells[j - c]? := by simp
           rw [h5,hu'] at hu; exact Option.some.inj hu
          subst this
          rw [show c + 0 + (j - c) = j from by omega] at hcl
          exact hcl.write W
         ·rename_i h6
          rw [if_neg h6] at hu
          rw [List.getElem?_drop,show c + n + (j - (c + n)) = j from by omega] at hx hu
          exact (old hu hx (.inr (by omega))).write W)
       have h5 : Sim φ w0 L E1 ((st1.put' gs .any).setRoot q (some ⟨true,Rz,[reCell e (e.cells.take c ++ cs ++ e.cells.drop (c + n))]⟩)) a _ := ⟨h4,h.nodef⟩
       exact hn E1 _ _ (h5.put' hd (.one _ _ (.any _)) ((Copy.scalar noTk_any).tok h5))
    ·cases he
   ·
    rename_i i _ _ _ hb _
    obtain ⟨⟨v0,st1⟩,hp,he⟩ := Option.bind_eq_some_iff.1 he
    simp only at he
    split at he <;> (try (cases he; done))
    rename_i hvn0
    obtain ⟨R1,hR1,he⟩ := Option.bind_eq_some_iff.1 he
    obtain ⟨e,hei,he⟩ := Option.bind_eq_some_iff.1 he
    obtain ⟨cs,hcs,he⟩ := Option.map_eq_some_iff.1 he
    subst he
    obtain ⟨E1,h1,hρe,hst,hrep,hpc⟩ := h.toSimE.pin hv.1 hv.2 hp
    have hRR : R1 = R := by
     rcases hst.r q id with h2 | h2
     ·rw [h2,hR] at hR1; exact (Option.some.inj hR1).symm
     ·rw [h2] at hR1; cases hR1
    subst hRR
    have hρ1 : E1.ρ q = some (b,o0) := by rw [hρe]; exact hρ
    have hro := h1.roots q _ hR1
    unfold setCells at hcs
    split at hcs
    ·rename_i hle
     simp only [Option.some.injEq] at hcs; subst hcs
     unfold Oper.wp
     cases hro with
     | empty z h => simp at hei
     | box => cases hb
     | sl b1 o1 z xs vs hρ2 hz hh hv1 hrm =>
       rw [hρ1] at hρ2; cases hρ2
       simp only at hei run hn
       have hcl := hrep.cells
       have hez : e.cells.length = z := hz e (List.mem_of_getElem? hei)
       have hvn : v0.cells.length = (a.eval v).cells.size := by have := hcl.length; simpa using this.symm
       have hi : i < xs.length := by
        rcases Nat.lt_or_ge i xs.length with h | h
        ·exact h
        ·simp [List.getElem?_eq_none h] at hei
       have hiz : i * z + z ≤ xs.length * z := by
        have := Nat.mul_le_mul_right z (show i + 1 ≤ xs.length from hi)
        rw [Nat.succ_mul] at this; exact this
       have hfl := flat_length hz
       have hvs : vs.length = xs.length * z := by rw [← hfl]; exact hh.length
       have hone : ∀ u ∈ (a.eval v).cells.toList,u.oneCell' = true := fun u hu => by
        obtain ⟨j,hj⟩ := List.mem_iff_getElem?.1 hu
        obtain ⟨x,hx,hr⟩ := hcl.getV hj
        exact Value.one_cell (hr.oneCell (pureC_nagg (List.all_eq_true.1 hpc x (List.mem_of_getElem? hx))))
       have hsz : (a.eval v).cells.size = n := by rw [← hvn]; exact hvn0
       have hnl : (a.eval v).cells.toList.length = n := by simpa using hsz
       rw [run hsz hone hrm (by omega),Oper.upon_skip]
       have hcc : (reCell e (e.cells.take c ++ v0.cells ++ e.cells.drop (c + v0.cells.length))).cells = e.cells.take c ++ v0.cells ++ e.cells.drop (c + v0.cells.length) := by
        by_cases hx : ∃ l,e = .agg l
        ·obtain ⟨l,rfl⟩ := hx; rfl
        ·have hx' : ∀ l,e ≠ .agg l := fun l h => hx ⟨l,h⟩
         refine reCell_cells (by simp; omega) fun y hy l => ?_
         have hec := A.cells_one hx'
         rcases List.mem_append.1 hy with hy | hy
         ·rcases List.mem_append.1 hy with hy | hy
          ·have := List.mem_of_mem_take hy
           rw [hec,List.mem_singleton] at this; subst this; exact hx' l
          ·exact pureC_nagg (List.all_eq_true.1 hpc y hy) l
         ·have := List.mem_of_mem_drop hy
          rw [hec,List.mem_singleton] at this; subst this; exact hx' l
       have hfc := flat_cell hz (e' := reCell e (e.cells.take c ++ v0.cells ++ e.cells.drop (c + v0.cells.length))) hei (by omega) hcc
       have h4 := h1.writeRoot (b := b) (o := o0) (o' := o0 + i * z + c) (R' := ⟨false,z,xs.set i (reCell e (e.cells.take c ++ v0.cells ++ e.cells.drop (c + v0.cells.length)))⟩) (news := (a.eval v).cells.toList) hR1 hρ1 ⟨rfl,rfl,by simp⟩ (fun W => by
        have hwr := Cells.write (news := (a.eval v).cells.toList) (c := i * z + c) hv1 (by rw [hvs]; exact hrm) (by rw [hnl,hvs]; omega)
        rw [← Nat.add_assoc] at hwr
        refine .sl b o0 z _ _ hρ1 (fun x hx => ?_) ?_ hwr (by simpa using W.room _ hrm)
        ·rcases List.mem_or_eq_of_mem_set hx with h' | rfl
         ·exact hz x h'
         ·rw [hcc]; simp; omega
        ·rw [hfc,hnl]
         refine W.reps (((hh.take _).append hcl).append ?_)
         rw [show i * z + c + v0.cells.length = i * z + c + n from by omega]
         exact hh.drop _)
       have h5 : Sim φ w0 L E1 (st1.setRoot q (some ⟨false,z,xs.set i (reCell e (e.cells.take c ++ v0.cells ++ e.cells.drop (c + v0.cells.length)))⟩)) a _ := ⟨h4,h.nodef⟩
       exact hn E1 _ _ (h5.put' hd (.one _ _ (.any _)) ((Copy.scalar noTk_any).tok h5))
    ·cases hcs
   ·cases he
  ·cases he
 ·cases he
end
end
end Go.Ab
namespace Go.Ab
section
variable {P : Program} {φ : Nat → Nat} {w0 : World} {L : Lent} {E E' : Env} {st st' : St} {ev ev' : Nat → Value} {w w' : World} {r r' : Nat → Option Root} {a : Act}
theorem noAgg_spec {x : A} (h : noAgg x = true) (l : List A) : x ≠ .agg l := by rintro rfl; simp [noAgg] at h
theorem src_ok {z : Nat} {tx e' : TypeId} (hk : P.underlying tx = some (.slice e')) {u : Value} {ys : List A} {ad : Option Addr} {cap : Nat} (hu : u = .slice ad ys.length cap)
 (hc : ys = [] ∨ ∃ b o vs,ad = some ⟨b,o,none⟩ ∧ Reps φ w E.ok vs (ys.flatMap A.cells) ∧ Cells w b o vs ∧ ∀ y ∈ ys,y.cells.length = z) (hf : ys.all flatC = true) :
 ∃ news,Src P z tx u ys.length news w ∧ Reps φ w E.ok news (ys.flatMap A.cells) ∧ ∀ y ∈ ys,y.cells.length = z := by
 subst hu
 rcases hc with rfl | ⟨b,o,vs,rfl,h1,h2,h3⟩
 ·refine ⟨[],?_,.nil,fun y hy => by cases hy⟩
  cases ad with
  | none => exact Src.ofNil w hk cap
  | some ad => exact Src.ofSlice w hk ad 0 cap [] (by simp) (fun j u h => by simp at h) (fun u h => by cases h)
 ·have hl := h1.length
  rw [flat_length h3] at hl
  refine ⟨vs,Src.ofSlice w hk ⟨b,o,none⟩ ys.length cap vs hl (fun j u hj => by rw [World.cell?_add]; exact h2 j u hj) (fun u hu => ?_),h1,h3⟩
  obtain ⟨j,hj⟩ := List.mem_iff_getElem?.1 hu
  obtain ⟨x,hx,hr⟩ := h1.getV hj
  obtain ⟨y,hy,hxy⟩ := List.mem_flatMap.1 (List.mem_of_getElem? hx)
  have := List.all_eq_true.1 hf y hy
  exact Value.one_cell (hr.oneCell (noAgg_spec (List.all_eq_true.1 this x hxy)))
theorem noTk_empty {k z : Nat} {ad : Option Addr} (k' b : Nat) : ¬ Tk (.slice ad 0 0) (.tok k z []) k' b := by
 intro h; cases h with
 | one _ _ _ _ h => cases h; contradiction
theorem app_core (h0 : Sim φ w0 L E st a w) {v u : Value} {z : Nat} {xs ys : List A} {ob : Option Nat} (hO : OwnRep φ w E.ok v z xs ob) (hF : ∀ b,ob = some b → Fresh w0 L E st (fun i => a.eval (.tmp i)) w b)
 {t tx ty e e' : TypeId} (ht : P.underlying t = some (.slice e)) (hk : P.underlying tx = some (.slice e')) {i : TypeInfo} (hi : P.info? e = some i) (hz : i.size = z) {zv : Value} (hzv : i.zero = some zv) (hzs : zv.cells.size = z)
 (hb : i.bytes ≤ 128) (hlim : xs.length + ys.length < lim) {ad : Option Addr} {cap : Nat} (hu : u = .slice ad ys.length cap)
 (hc : ys = [] ∨ ∃ b o vs,ad = some ⟨b,o,none⟩ ∧ Reps φ w E.ok vs (ys.flatMap A.cells) ∧ Cells w b o vs ∧ ∀ y ∈ ys,y.cells.length = z) (hf : ys.all flatC = true) (k : Nat) :
 ∃ v' w',(Builtin.append_ #[t,tx] ty #[v,u]).run P w = .ok v' w' ∧ Sim φ w0 L E st a w' ∧ RV φ E st.r w' v' (.tok k z (xs ++ ys)) ∧ TokOk w0 L E st a w' v' (.tok k z (xs ++ ys)) := by
 obtain ⟨news,hs,hnr,hyz⟩ := src_ok (z := z) hk hu hc hf
 have hlim' : xs.length + ys.length < 1099511627776 := by simpa [lim] using hlim
 have hfit : ∀ c,c < xs.length + ys.length → Builtin.nextslicecap (xs.length + ys.length) c * i.bytes ≤ 281474976710656 := fun c hc =>
  growslice_fits hc (by have := Nat.mul_le_mul (show xs.length + ys.length ≤ 1099511627776 by omega) hb; omega)
 have hnl : news.length = ys.length * z := by have := hnr.length; rwa [flat_length hyz] at this
 have grow : ∀ {base : Option Addr} {c : Nat} {olds : List Value},v = .slice base xs.length c → c < xs.length + ys.length → (Builtin.firstCells i.size xs.length (.slice base xs.length c)).run P w.drew = .ok olds.toArray w.drew →
  Reps φ w E.ok olds (xs.flatMap A.cells) → (∀ y ∈ xs,y.cells.length = z) →
  ∃ v' w',(Builtin.append_ #[t,tx] ty #[v,u]).run P w = .ok v' w' ∧ Sim φ w0 L E st a w' ∧ RV φ E st.r w' v' (.tok k z (xs ++ ys)) ∧ TokOk w0 L E st a w' v' (.tok k z (xs ++ ys)) := by
  intro base c olds hv hlt hold hor hxz
  subst hv; subst hz
  have hrun := run_append_grow_src (P := P) w t tx ty e i zv ht hi hzv base xs.length c olds hold u ys.length news hs hlt (by omega) (hfit c hlt)
  have hol : olds.length = xs.length * i.size := by have := hor.length; rwa [flat_length hxz] at this
  have hge := grownCap_ge w (xs.length + ys.length) c e
  have hh : (w.drew.alloc (.cells ((olds ++ news).toArray ++ Builtin.zeroCells zv.cells (grownCap w (xs.length + ys.length) c e - (xs.length + ys.length))) e)).heap =
   w.heap.push (.cells ((olds ++ news).toArray ++ Builtin.zeroCells zv.cells (grownCap w (xs.length + ys.length) c e - (xs.length + ys.length))) e) := rfl
  have hcp := cells_push hh
  have htl : ((olds ++ news).toArray ++ Builtin.zeroCells zv.cells (grownCap w (xs.length + ys.length) c e - (xs.length + ys.length))).toList = (olds ++ news) ++ (Builtin.zeroCells zv.cells (grownCap w (xs.length + ys.length) c e - (xs.length + ys.length))).toList := by simp
  rw [htl] at hcp
  have hnt := new_tok (k := k) (z := i.size) (cap := grownCap w (xs.length + ys.length) c e) (xs := xs ++ ys) h0 hh ⟨rfl,rfl⟩ (fun y hy => (List.mem_append.1 hy).elim (hxz y) (hyz y))
   (by rw [List.flatMap_append]; exact hor.append hnr) hcp.left (by simpa using hge) (by
     simp only [Array.size_append,List.size_toArray,List.length_append,size_zeroCells,hzs,hol,hnl]
     rw [← Nat.add_mul,← Nat.add_mul]
     exact Nat.mul_le_mul_right _ (by omega))
  rw [List.length_append] at hnt
  exact ⟨_,_,hrun,h0.ext (ext_push hh ⟨rfl,rfl⟩) (.refl E w _),hnt.1,hnt.2⟩
 cases hO with
 | empty ad0 z =>
   by_cases hy0 : ys = []
   ·subst hy0
    have hn0 : news = [] := List.eq_nil_of_length_eq_zero (by simpa using hnl)
    subst hn0
    refine ⟨.slice ad0 0 0,w,?_,h0,.one _ _ (.tokE _ _ _),⟨fun k b h => (noTk_empty _ _ h).elim,fun i k k' b b' h => (noTk_empty _ _ h).elim,fun k k' b b' h => (noTk_empty _ _ h).elim⟩⟩
    have hsc : ∀ A : Addr,(storeCells A ([] : List Value)).run P w = .ok () w := fun A => rfl
    have hcs : (Builtin.firstCells i.size 0 u).run P w = .ok #[] w := by rw [hz]; exact hs.cells
    have hln := hs.len
    rcases hs.kind with ⟨e2,hk2⟩ | hk2 <;> cases ad0 <;>
     simp [Builtin.append_,run_underlying ht,run_underlying hk2,sizeOf,typeInfo,hi,hln,hcs,hsc]
   ·refine grow rfl (by have := List.length_pos_iff.2 hy0; simp; omega) ?_ .nil (fun y hy => by cases hy)
    cases ad0 with
    | none => exact run_firstCells_none w.drew i.size 0 0 0
    | some ad0 => exact run_firstCells_some w.drew i.size 0 ad0 0 0 [] (by simp) (fun j u h => by simp at h)
 | mk b o c z xs vs hcap hc0 hxz hxr hxv hrm =>
   have hvl : vs.length = xs.length * z := by have := hxr.length; rwa [flat_length hxz] at this
   by_cases hroom : xs.length + ys.length ≤ c
   ·have hle : xs.length * z + ys.length * z ≤ c * z := by rw [← Nat.add_mul]; exact Nat.mul_le_mul_right _ hroom
    subst hz
    have hpos : ∀ j,j < news.length → (w.cell? ⟨b,o + xs.length * i.size + j,none⟩).isSome = true ∧ w.frozen? ⟨b,o + xs.length * i.size + j,none⟩ = false := fun j hj => hrm.cell (by omega)
    have hrun := run_append_room_src (P := P) w t tx ty e i ht hi b o xs.length c u ys.length news hs hroom (fun j hj => (hpos j hj).1) (fun j hj => (hpos j hj).2)
    have hFb := hF b rfl
    have W : Wr w0 L E st.r st.r w (w.setCells b (o + xs.length * i.size) news) b := Wr.cells hFb.z.1 hFb.z.2.1 fun q R' h => ⟨R',h,rfl,rfl,rfl⟩
    have h1 := h0.toSimE.write W (fun i k ht => hFb.t i k b ht rfl) fun q R' hq => .inl ⟨hq,fun o' hρ => hFb.r q b o' (by rw [hq]; rfl) hρ rfl⟩
    have hsz := W.size
    have hcells : Cells (w.setCells b (o + xs.length * i.size) news) b o (vs ++ news) := by
     refine Cells.append (fun j v hj => ?_) (fun j v hj => ?_)
     ·have hjl : j < vs.length := by
       rcases Nat.lt_or_ge j vs.length with h | h
       ·exact h
       ·simp [List.getElem?_eq_none h] at hj
      rw [World.cell?_setCells_out b news _ w ⟨b,o + j,none⟩ (fun _ _ => .inl (by simp; omega))]
      exact hxv j v hj
     ·have hjl : j < news.length := by
       rcases Nat.lt_or_ge j news.length with h | h
       ·exact h
       ·simp [List.getElem?_eq_none h] at hj
      rw [hvl,World.cell?_setCells_in b news (o + xs.length * i.size) w (fun j hj => (hpos j hj).1) j hjl,← hj]
      simp
    have hrv := RV1.tok (φ := φ) (E := E) (r := st.r) (w := w.setCells b (o + xs.length * i.size) news) b o c k i.size (xs ++ ys) (vs ++ news) (by simpa using hroom) hc0
     (fun y hy => (List.mem_append.1 hy).elim (hxz y) (hyz y)) (by rw [List.flatMap_append]; exact W.reps (hxr.append hnr)) hcells (W.room _ hrm)
    rw [List.length_append] at hrv
    have htb : ∀ k' b',Tk (.slice (some ⟨b,o,none⟩) (xs.length + ys.length) c) (.tok k i.size (xs ++ ys)) k' b' → b' = b ∧ k' = k := by
     intro k' b' h
     cases h with
     | one _ _ _ _ h => cases h; exact ⟨rfl,rfl⟩
    refine ⟨_,_,hrun,⟨h1,h0.nodef⟩,.one _ _ hrv,⟨fun k' b' h => ?_,fun i' k1 k2 b1 b2 h h' _ => ?_,fun k1 k2 b1 b2 h h' hne => ?_⟩⟩
    ·obtain ⟨rfl,_⟩ := htb _ _ h
     exact ⟨⟨hFb.z.1,hFb.z.2.1,by rw [hsz]; exact hFb.z.2.2⟩,hFb.r⟩
    ·obtain ⟨rfl,_⟩ := htb _ _ h
     exact fun e => hFb.t i' k2 b2 h' e.symm
    ·exact absurd ((htb _ _ h).2.trans (htb _ _ h').2.symm) hne
   ·refine grow rfl (by omega) ?_ hxr hxz
    exact run_firstCells_some w.drew i.size xs.length ⟨b,o,none⟩ xs.length c vs (by rw [hvl,hz]) (fun j u hj => by rw [World.cell?_add]; exact hxv j u hj)
section
variable {o : Oper} {next : Act → World → Prop} {Q : Exit → Act → World → Prop} {cf : CF} {io : Nat → List Bool}
theorem w_app (h : Sim φ w0 L E st a w) {s x : Operand} {s' x' : Opd} {t u e e2 : TypeId} {z bytes : Nat} (ho : o.op = .call ⟨.builtin .append,#[s,x],#[t,u]⟩) (hs : chkOpd φ s s' = true) (hx : chkOpd φ x x' = true)
 (ht : P.underlying t = some (.slice e)) (hk : P.underlying u = some (.slice e2)) {i : TypeInfo} (hi : P.info? e = some i) (hz : i.size = z) (hby : i.bytes = bytes) {zv : Value} (hzv : i.zero = some zv) (hzs : zv.cells.size = z)
 (hd : ∀ i,o.dst = some i → i < a.tmps.size) (he : stepW cf io o.dst st (.app z bytes s' x') = some st')
 (hn : ∀ E' v w',Sim φ w0 L E' st' (a.put o.dst v) w' → next (a.put o.dst v) w') : o.wp P a w next Q := by
 have hsv := opd_ok h hs
 have hxv := opd_ok h hx
 simp only [stepW] at he
 split at he
 ·cases he
 ·rename_i d hdst
  obtain ⟨⟨z2,ys⟩,hel,he⟩ := Option.bind_eq_some_iff.1 he
  simp only at he
  obtain ⟨ad,cap,hu,hcap,hcase⟩ := elems_ok h.roots hxv.1 hel
  have fin : ∀ {st0 : St} {xs : List A} {ob : Option Nat},SimE φ w0 L E st0 (fun i => a.eval (.tmp i)) w → OwnRep φ w E.ok (a.eval s) z xs ob → (∀ b,ob = some b → Fresh w0 L E st0 (fun i => a.eval (.tmp i)) w b) →
   z2 = z → xs.length + ys.length < lim → bytes ≤ 128 → ys.all flatC = true → st' = st0.put (some d) (.tok (8 * d) z (xs ++ ys)) → o.wp P a w next Q := by
   intro st0 xs ob h0 hO hF hz2 hl hb hf hst
   subst hz2
   obtain ⟨v',w',hrun,h1,h2,h3⟩ := app_core (ty := o.type) ⟨h0,h.nodef⟩ hO hF ht hk hi hz hzv hzs (by rw [hby]; exact hb) hl hu hcase hf (8 * d)
   have hex : (execOp a.eval o).run P w = .ok (.value v') w' := by
    simp [execOp,ho,resolve,invoke,builtin,hrun]
   unfold Oper.wp
   rw [hex,Oper.upon_value]
   refine hn E v' w' ?_
   rw [hst,hdst]
   exact h1.put (hd d hdst) h2 h3
  split at he
  ·rename_i k z1 xs e1
   split at he
   ·rename_i hcond
    obtain ⟨hz1,hz2,hl,hb,hf⟩ := hcond
    simp only [Option.some.injEq] at he
    rw [e1] at hsv
    subst hz1
    have hkt := h.toSimE.killTok k
    obtain ⟨hsv1,hsv2⟩ := hsv
    generalize hev : a.eval s = sv at hsv1 hsv2
    cases hsv1.tok_inv with
    | data _ _ h => cases h
    | tokE ad0 => exact fin hkt (by rw [hev]; exact .empty ad0 z1) (fun b e => by cases e) hz2 hl hb hf he.symm
    | tok b o0 c k z1 xs vs hcc h0 hzz hh hv' hrm =>
      obtain ⟨i0,hi0⟩ := hsv2 k b (.one _ _ _ _ (.mk ⟨b,o0,none⟩ _ _ _ _ _ h0))
      have hf0 := h.tz i0 k b hi0
      refine fin hkt (by rw [hev]; exact .mk b o0 c z1 xs vs hcc h0 hzz hh hv' hrm) (fun b' e => ?_) hz2 hl hb hf he.symm
      cases e
      refine ⟨hf0.1,hf0.2,fun i' k' b' a1 => ?_⟩
      have h3 := Tk.comps (fd_killTok k) a1
      exact h.td i' i0 k' k b' b h3.1 hi0 h3.2
   ·cases he
  ·rename_i z1 e1
   split at he
   ·rename_i hcond
    obtain ⟨hz1,hz2,hl,hb,hf⟩ := hcond
    simp only [Option.some.injEq] at he
    rw [e1] at hsv
    exact fin h.toSimE (xs := []) (by rw [hsv.1.nils_inv]; exact .empty none z) (fun b e => by cases e) hz2 (by simpa using hl) hb hf he.symm
   ·cases he
  ·rename_i q off n e1
   obtain ⟨R,hR,he⟩ := Option.bind_eq_some_iff.1 he
   split at he
   ·rename_i hcond
    obtain ⟨hz1,hz2,hl,hb,hf⟩ := hcond
    simp only [Option.some.injEq] at he
    rw [e1] at hsv
    subst hz1
    have hkq := (h.toSimE.kill q).unroot q
    obtain ⟨hsv1,hsv2⟩ := hsv
    generalize hev : a.eval s = sv at hsv1 hsv2
    cases hsv1.view_inv with
    | data _ _ h => cases h
    | viewN _ _ _ _ h1 => rw [h1] at hR; cases hR
    | viewE ad0 q off R' h1 hb' hn' =>
      rw [List.take_zero] at he
      exact fin hkq (xs := []) (by rw [hev]; exact .empty ad0 _) (fun b e => by cases e) hz2 (by simpa using hl) hb hf he.symm
    | view b o0 c q off n R' h1 hb' hn' hcc h0 hρ hrm =>
      rw [h1] at hR; cases hR
      have hlen : ((R.xs.drop off).take n).length = n := by simp; omega
      have hf0 := h.rz q b o0 (by rw [h1]; rfl) hρ
      have hfr : Fresh w0 L E ((st.kill q).setRoot q none) (fun i => a.eval (.tmp i)) w b := by
       refine ⟨hf0,fun q' b' o' a1 a2 => ?_,fun i k b' a1 => ?_⟩
       ·simp only [St.setRoot] at a1
        split at a1
        ·cases a1
        ·rename_i hne
         exact h.inj q' q b' o' b o0 a1 (by rw [h1]; rfl) a2 hρ hne
       ·have h3 := Tk.comps (fd_kill q) a1
        exact fun e => (h.tz i k b' h3.1).2 q b o0 (by rw [h1]; rfl) hρ e.symm
      have hO : OwnRep φ w E.ok (a.eval s) R.z ((R.xs.drop off).take n) (some b) := by
       cases h.roots q R h1 with
       | empty z hh =>
         rw [hh] at hρ; cases hρ
       | box => cases hb'
       | sl b1 o1 z xs vs hρ1 hzz hh hv' hrm' =>
         rw [hρ] at hρ1; cases hρ1
         have := OwnRep.mk (φ := φ) (w := w) (K := E.ok) b (o0 + off * z) c z ((xs.drop off).take n) ((vs.drop (off * z)).take (n * z)) (by simp only at hlen; rw [hlen]; exact hcc) h0
          (fun y hy => hzz y (List.mem_of_mem_drop (List.mem_of_mem_take hy))) (by
            rw [flat_take (fun x hx => hzz x (List.mem_of_mem_drop hx)),flat_drop hzz]
            exact (hh.drop _).take _) ((hv'.drop _).take _) (by rw [Nat.add_mul,← Nat.add_assoc] at hrm; exact hrm)
         simp only at hlen
         rw [hlen] at this
         rw [hev]
         exact this
      exact fin hkq hO (fun b' e => by cases e; exact hfr) hz2 (by rw [hlen]; exact hl) hb hf he.symm
   ·cases he
  ·cases he
end
end
end Go.Ab
namespace Go.Ab
section
variable {P : Program} {φ : Nat → Nat} {w0 : World} {L : Lent} {E E' : Env} {st st' : St} {ev ev' : Nat → Value} {w w' : World} {r r' : Nat → Option Root} {a : Act}
variable {o : Oper} {next : Act → World → Prop} {Q : Exit → Act → World → Prop} {cf : CF} {io : Nat → List Bool}
theorem w_ia (h : Sim φ w0 L E st a w) {t : TypeId} {z : Nat} {x i : Operand} {x' i' : Opd} (ho : o.op = .indexAddr t x i) (hx : chkOpd φ x x' = true) (hi : chkOpd φ i i' = true) (hc : chkIa P t z = true)
 (hd : ∀ i,o.dst = some i → i < a.tmps.size) (he : stepW cf io o.dst st (.ia z x' i') = some st')
 (hn : ∀ E' v w',Sim φ w0 L E' st' (a.put o.dst v) w' → next (a.put o.dst v) w') : o.wp P a w next Q := by
 have vx := opd_ok h hx
 have vi := (opd_ok h hi).1
 simp only [stepW] at he
 split at he
 ·rename_i kk n k z' xs e1 e2
  obtain ⟨⟨v0,st1⟩,hp,he⟩ := Option.bind_eq_some_iff.1 he
  simp only at he
  split at he
  ·rename_i z0 xs0
   split at he
   ·rename_i hcond
    obtain ⟨h0,hz⟩ := hcond
    obtain ⟨y,hy,rfl⟩ := Option.map_eq_some_iff.1 he
    rw [e1] at vi
    obtain ⟨E1,h1,hρ,hst,hrep,_⟩ := h.toSimE.pin vx.1 vx.2 hp
    have hS : Sim φ w0 L E1 st1 a w := ⟨h1,h.nodef⟩
    have hlt : n.toNat < xs0.length := (List.getElem?_eq_some_iff.1 hy).1
    generalize hev : a.eval x = sv at hrep
    cases hrep with
    | slE ad cap z => simp at hy
    | sl b o1 cap z2 _ vs hb hzz hcap hrs hcs =>
      subst hz
      have hrun : (execOp a.eval o).run P w = .ok (.value (.pointer (some ⟨b,o1 + n.toNat * z0,none⟩))) w := by
       simp only [execOp,ho,hev,vi.int_inv,Sem.run_bind,run_indexAt_slice hc h0 (show n < (xs0.length : Int) by omega),Result.andThen_ok,Sem.run_pure]
      have hpt := rv_ptr (φ := φ) (E := E1) (st := st1) (a := a) (w := w) (r := st1.r) (b := b) (o := o1 + n.toNat * z0) (c := 0) (v := .pointer (some ⟨b,o1 + n.toNat * z0,none⟩)) hb (hrs.elem hzz hy) ((hcs.drop _).take _) (by simp)
      unfold Oper.wp
      rw [hrun,Oper.upon_value]
      exact hn E1 _ w (hS.put' hd hpt.1 (hpt.2.tok hS))
   ·cases he
  ·cases he
 ·cases he
theorem run_fillQ {z : Nat} : ∀ (l : List (Nat × Operand)) (m : List (Nat × Opd)) (cells : Array Value) (xs xs' : List A) (E : Env) (st st' : St),Sim φ w0 L E st a w → chkPartsS φ l m = true → (∀ x ∈ xs,x.cells.length = z) →
 Reps φ w E.ok cells.toList (xs.flatMap A.cells) → stepW.fillQ st z xs m = some (xs',st') →
 ∃ cells' E',Instr.fill (fun i => some (i * z,z)) cells (l.map fun p => (p.1,a.eval p.2)) = some cells' ∧ Sim φ w0 L E' st' a w ∧ Reps φ w E'.ok cells'.toList (xs'.flatMap A.cells) ∧ (∀ x ∈ xs',x.cells.length = z) ∧ xs'.length = xs.length := by
 intro l
 induction l with
 | nil =>
   intro m cells xs xs' E st st' h hc hz hv hf
   cases m with
   | nil => simp [stepW.fillQ] at hf; obtain ⟨rfl,rfl⟩ := hf; exact ⟨cells,E,rfl,h,hv,hz,rfl⟩
   | cons => simp [chkPartsS] at hc
 | cons p l ih =>
   intro m cells xs xs' E st st' h hc hz hv hf
   obtain ⟨i,x⟩ := p
   cases m with
   | nil => simp [chkPartsS] at hc
   | cons q m =>
     obtain ⟨j,y⟩ := q
     simp only [chkPartsS,Bool.and_eq_true,beq_iff_eq] at hc
     obtain ⟨⟨rfl,hx⟩,hc⟩ := hc
     simp only [stepW.fillQ] at hf
     obtain ⟨⟨v,st1⟩,hd,hf⟩ := Option.bind_eq_some_iff.1 hf
     simp only at hf
     split at hf
     ·rename_i hcond
      obtain ⟨hvz,hlt⟩ := hcond
      have hop := opd_ok h hx
      obtain ⟨E1,h1,hρ,hst,hrep,_⟩ := h.toSimE.pin hop.1 hop.2 hd
      have hcells := hrep.cells
      have hsz : (a.eval x).cells.size = z := by have := hcells.length; simp at this; omega
      have hfl := flat_length hz
      have hcl : cells.size = xs.length * z := by have := hv.length; rw [hfl] at this; simpa using this
      have hle : i * z + z ≤ xs.length * z := by
       have : (i + 1) * z ≤ xs.length * z := Nat.mul_le_mul_right z hlt
       rw [Nat.succ_mul] at this; exact this
      obtain ⟨cells',hc1,hc2⟩ := run_fill_step (place := fun i => some (i * z,z)) (cells := cells) (i := i) (v := a.eval x) (rest := l.map fun p => (p.1,a.eval p.2)) (by rw [hsz]) (by rw [hsz,hcl]; exact hle)
      simp only [List.map_cons]
      rw [hc2]
      have hz' : ∀ y ∈ xs.set i v,y.cells.length = z := by
       intro y hy
       rcases List.mem_or_eq_of_mem_set hy with h' | rfl
       ·exact hz y h'
       ·exact hvz
      have hv' := hv.mono (w' := w) (ok' := E1.ok) (fun _ _ => rfl) hst.ok
      obtain ⟨c2,E2,a1,a2,a3,a4,a5⟩ := ih m cells' (xs.set i v) xs' E1 st1 st' ⟨h1,h.nodef⟩ hc hz' (by
       rw [hc1,hsz,flat_set hz hvz hlt]
       exact ((hv'.take _).append hcells).append (hv'.drop _)) hf
      exact ⟨c2,E2,a1,a2,a3,a4,by simpa using a5⟩
     ·cases hf
theorem w_bsl (h : Sim φ w0 L E st a w) {t e : TypeId} {n z : Nat} {parts : Array (Nat × Operand)} {zero : A} {ps : List (Nat × Opd)} (ho : o.op = .buildSlice t n parts) (ht : P.underlying t = some (.slice e)) (hz : chkZ P e z zero = true)
 (hc : chkPartsS φ parts.toList ps = true) (hd : ∀ i,o.dst = some i → i < a.tmps.size) (he : stepW cf io o.dst st (.bsl z zero n ps) = some st')
 (hn : ∀ E' v w',Sim φ w0 L E' st' (a.put o.dst v) w' → next (a.put o.dst v) w') : o.wp P a w next Q := by
 simp only [stepW] at he
 split at he
 ·rename_i d hdst
  split at he
  ·rename_i hcond
   obtain ⟨⟨xs,st1⟩,hf,rfl⟩ := Option.map_eq_some_iff.1 he
   obtain ⟨i,v,hi,hsz,hzero,hcs,hvz⟩ := chkZ_spec hz
   have hmade : (madeCells v.cells (n * z)).toList = (List.replicate n v.cells.toList).flatten := by rw [← hvz]; exact madeCells_replicate _ _
   have h0 : Reps φ w E.ok (madeCells v.cells (n * z)).toList ((List.replicate n zero).flatMap A.cells) := by rw [hmade]; exact reps_replicate (chkCs_reps hcs) n
   obtain ⟨cells',E1,h1,hS,h2,h3,h4⟩ := run_fillQ parts.toList ps _ _ xs E st st1 h hc (fun x hx => by rw [List.eq_of_mem_replicate hx]; exact hcond.2) h0 hf
   have hxl : xs.length = n := by simpa using h4
   have hparts : (parts.map fun p => (p.1,a.eval p.2)).toList = parts.toList.map fun p => (p.1,a.eval p.2) := by simp
   have hlim : ¬ n * z > 16777216 := by omega
   have hcl : cells'.size = n * z := by have := h2.length; rw [flat_length h3,hxl] at this; simpa using this
   have hrun : (Instr.buildSlice t n (parts.map fun p => (p.1,a.eval p.2))).run P w = .ok (.slice (some ⟨w.heap.size,0,none⟩) n n) { w with heap := w.heap.push (.cells cells' e) } := by
    have e1 : (sizeOf e).run P w = .ok z w := by simp [sizeOf,typeInfo,hi,hsz]
    have hzv : (zeroValue e).run P w = .ok v w := by simp [zeroValue,typeInfo,hi,hzero]
    by_cases hn : n * z = 0
    ·have hm0 : madeCells v.cells (n * z) = #[] := by rw [hn]; simp [madeCells,Array.range_zero']
     rw [hm0] at h1
     have hm1 : ((Array.range (n * z)).map ((#[] : Array Value)[· % (#[] : Array Value).size]!)) = #[] := by rw [hn]; simp [Array.range_zero']
     simp only [Instr.buildSlice,Sem.run_bind,run_underlying ht,Result.andThen_ok,e1,Sem.run_ite,hn,if_true,Sem.run_pure,hparts,show ¬ (0 > 2 ^ 24) from by decide,if_false]
     simp only [hn] at hm1
     simp only [hm1,h1]
     simp [newRow]
    ·simp only [Instr.buildSlice,Sem.run_bind,run_underlying ht,Result.andThen_ok,e1,hlim,Sem.run_ite,if_false,hn,hzv,Sem.run_pure,hparts]
     have hm1 : ((Array.range (n * z)).map (v.cells[· % v.cells.size]!)) = madeCells v.cells (n * z) := rfl
     simp only [hm1,h1]
     simp [newRow]
   have hex : (execOp a.eval o).run P w = .ok (.value (.slice (some ⟨w.heap.size,0,none⟩) n n)) { w with heap := w.heap.push (.cells cells' e) } := by
    simp only [execOp,ho,Sem.run_bind,hrun,Result.andThen_ok,Sem.run_pure]
   have hh : ({ w with heap := w.heap.push (.cells cells' e) } : World).heap = w.heap.push (.cells cells' e) := rfl
   have hnt := new_tok (k := 8 * d) (cap := n) hS hh ⟨rfl,rfl⟩ h3 h2 (cells_push hh) (by omega) (by rw [hcl]; exact Nat.le_refl _)
   rw [hxl] at hnt
   unfold Oper.wp
   rw [hex,Oper.upon_value]
   refine hn E1 _ _ ?_
   rw [hdst]
   exact (hS.ext (ext_push hh ⟨rfl,rfl⟩) (.refl E1 w _)).put (hd d hdst) hnt.1 hnt.2
  ·cases he
 ·cases he
end
end Go.Ab
namespace Go.Ab
section
variable {P : Program} {φ : Nat → Nat} {w0 : World} {L : Lent} {E E' : Env} {st st' : St} {ev ev' : Nat → Value} {w w' : World} {r r' : Nat → Option Root} {a : Act}
structure Wm (w0 : World) (L : Lent) (E E' : Env) (r r' : Nat → Option Root) (w w' : World) (B : Nat → Prop) : Prop where
 same : ∀ b,b < w.heap.size → ¬ B b → w'.heap[b]? = w.heap[b]?
 size : w.heap.size ≤ w'.heap.size
 env : w'.os = w.os ∧ w'.output = w.output
 fr : ∀ b off,b < w.heap.size → w'.frozen? ⟨b,off,none⟩ = w.frozen? ⟨b,off,none⟩
 room : ∀ b n,Room w b n → Room w' b n
 ρ : E'.ρ = E.ρ
 ok : ∀ b,E.ok b → E'.ok b
 new : ∀ b,E'.ok b → E.ok b ∨ (B b ∧ b < w'.heap.size) ∨ (w.heap.size ≤ b ∧ b < w'.heap.size)
 nok : ∀ b,B b → ¬ E.ok b
 zone : ∀ b,B b → Zone w0 L b
 sh : ∀ q R',r' q = some R' → ∃ R,r q = some R ∧ R'.b = R.b ∧ R'.z = R.z ∧ R'.xs.length = R.xs.length
section
variable {B : Nat → Prop} (W : Wm w0 L E E' r r' w w' B) (hz : ∀ b,E.ok b → b < w.heap.size)
include W
theorem Wm.rep (hz : ∀ b,E.ok b → b < w.heap.size) {v : Value} {x : A} (h : Rep φ w E.ok v x) : Rep φ w' E'.ok v x := h.mono (fun b hk => W.same b (hz b hk) fun e => W.nok b e hk) W.ok
theorem Wm.reps (hz : ∀ b,E.ok b → b < w.heap.size) {v : List Value} {x : List A} (h : Reps φ w E.ok v x) : Reps φ w' E'.ok v x := h.mono (fun b hk => W.same b (hz b hk) fun e => W.nok b e hk) W.ok
theorem Wm.someOf {q : Nat} (hq : (r' q).isSome) : (r q).isSome := by
 obtain ⟨R,hR⟩ := Option.isSome_iff_exists.1 hq
 obtain ⟨R1,h1,_⟩ := W.sh q R hR
 rw [h1]; rfl
theorem Wm.noneOf {q : Nat} (hq : r q = none) : r' q = none := by
 cases e : r' q with
 | none => rfl
 | some R => have := W.someOf (q := q) (by rw [e]; rfl); rw [hq] at this; cases this
theorem RV1.back (hz : ∀ b,E.ok b → b < w.heap.size) {v : Value} {x : A} (hnt : ∀ k b,Tk1 v x k b → ¬ B b) (h : RV1 φ E r w v x) : RV1 φ E' r' w' v x := by
 have hsome : ∀ q R,r q = some R → r' q = none ∨ ∃ R',r' q = some R' ∧ R'.b = R.b ∧ R'.z = R.z ∧ R'.xs.length = R.xs.length := fun q R hq => by
  cases e : r' q with
  | none => exact .inl rfl
  | some R' =>
    obtain ⟨R1,h1,h2⟩ := W.sh q R' e
    rw [hq] at h1; cases h1
    exact .inr ⟨R',rfl,h2⟩
 cases h with
 | any => exact .any _
 | undef => exact .undef
 | data _ _ h => exact .data _ _ (W.rep hz h)
 | tokE => exact .tokE _ _ _
 | tok b' o cap k z xs vs hc h0 hzz h hv hrm =>
   have hb : ¬ B b' := hnt k b' (.mk ⟨b',o,none⟩ _ _ _ _ _ h0)
   exact .tok b' o cap k z xs vs hc h0 hzz (W.reps hz h) (hv.of_block (W.same b' hrm.lt hb)) (W.room _ _ hrm)
 | viewN _ q off n h => exact .viewN _ _ _ _ (W.noneOf h)
 | viewE ad q off R h hb hn =>
   rcases hsome q R h with h1 | ⟨R',h1,h2,h3,h4⟩
   ·exact .viewN _ _ _ _ h1
   ·exact .viewE ad q off R' h1 (h2.trans hb) (h4 ▸ hn)
 | view b' o cap q off n R h hb hn hc h0 hq hrm =>
   rcases hsome q R h with h1 | ⟨R',h1,h2,h3,h4⟩
   ·exact .viewN _ _ _ _ h1
   ·rw [← h3] at hrm ⊢
    exact .view b' o cap q off n R' h1 (h2.trans hb) (h4 ▸ hn) hc h0 (W.ρ ▸ hq) (W.room _ _ hrm)
 | locN _ q i c h => exact .locN _ _ _ _ (W.noneOf h)
 | loc b' o q i c R h hq =>
   rcases hsome q R h with h1 | ⟨R',h1,h2,h3,h4⟩
   ·exact .locN _ _ _ _ h1
   ·rw [← h3]; exact .loc b' o q i c R' h1 (W.ρ ▸ hq)
theorem RV.back (hz : ∀ b,E.ok b → b < w.heap.size) {v : Value} {x : A} (hnt : ∀ k b,Tk v x k b → ¬ B b) (h : RV φ E r w v x) : RV φ E' r' w' v x := by
 cases h with
 | one _ _ h => exact .one _ _ (h.back W hz fun k b ht => hnt k b (.one _ _ _ _ ht))
 | tup vs xs h => exact .tup vs xs ⟨h.1,fun j v x hv hx => (h.2 j v x hv hx).back W hz fun k b ht => hnt k b (.tup vs xs j k b v x hv hx ht)⟩
 | agg vs xs h => exact .agg vs xs ⟨h.1,fun j v x hv hx => (h.2 j v x hv hx).back W hz fun k b ht => hnt k b (.agg vs xs j k b v x hv hx ht)⟩
 | fn f vs xs h hn =>
   refine .fn f vs xs ⟨h.1,fun j v x hv hx => (h.2 j v x hv hx).back W hz fun k b ht => ?_⟩ hn
   have := hn x (List.mem_of_getElem? hx)
   cases ht; cases this
theorem CellOk.back (hz : ∀ b,E.ok b → b < w.heap.size) {q c : Nat} {v : Value} {x : A} (h : CellOk φ E r w q c v x) : CellOk φ E' r' w' q c v x := by
 cases h with
 | data _ h ha => exact .data _ _ (W.rep hz h) ha
 | any h => exact .any _ h
 | view off n hc h hv => exact .view _ _ _ hc (h.back W hz fun k b ht => by cases ht) hv
end
theorem SimE.back (h : SimE φ w0 L E st ev w) {B : Nat → Prop} {r' : Nat → Option Root} (W : Wm w0 L E E' st.r r' w w' B) (htk : ∀ i k b,Tk (ev i) (st.t i) k b → ¬ B b) (hnk : ∀ q b o,(r' q).isSome → E.ρ q = some (b,o) → B b → ¬ E'.ok b)
 (hr : ∀ q R',r' q = some R' → (st.r q = some R' ∧ ∀ b o,E.ρ q = some (b,o) → ¬ B b) ∨ RootOk φ E' r' w' q R') : SimE φ w0 L E' { st with r := r' } ev w' := by
 have nok : ∀ b,¬ E.ok b → b < w.heap.size → ¬ B b → ¬ E'.ok b := fun b h1 h2 hB h3 => by
  rcases W.new b h3 with h4 | h4 | h4
  ·exact h1 h4
  ·exact hB h4.1
  ·omega
 exact {
  slots := fun i => (h.slots i).back W h.okz (htk i)
  roots := fun q R' hq => by
   rcases hr q R' hq with ⟨h1,h5⟩ | h5
   ·cases h.roots q R' h1 with
    | empty z h => exact .empty z (W.ρ ▸ h)
    | sl b' o z xs vs hρ hz hh hv hrm => exact .sl b' o z xs vs (W.ρ ▸ hρ) hz (W.reps h.okz hh) (hv.of_block (W.same _ hrm.lt (h5 _ _ hρ))) (W.room _ _ hrm)
    | box b' o z x vs hρ hz hlt hl hh hv hrm => exact .box b' o z x vs (W.ρ ▸ hρ) hz hlt hl (fun c v a h1 h2 => (hh c v a h1 h2).back W h.okz) (hv.of_block (W.same _ hrm.lt (h5 _ _ hρ))) (W.room _ _ hrm)
   ·exact h5
  inj := fun q q' b o b' o' a1 a2 a3 a4 => h.inj q q' b o b' o' (W.someOf a1) (W.someOf a2) (W.ρ ▸ a3) (W.ρ ▸ a4)
  rz := fun q b o a1 a2 => by
   have := h.rz q b o (W.someOf a1) (W.ρ ▸ a2)
   refine ⟨fun hk => ?_,this.2.1,Nat.lt_of_lt_of_le this.2.2 W.size⟩
   by_cases hB : B b
   ·exact hnk q b o a1 (W.ρ ▸ a2) hB hk
   ·exact nok b this.1 this.2.2 hB hk
  tz := fun i k b a1 => by
   have := h.tz i k b a1
   exact ⟨⟨nok b this.1.1 this.1.2.2 (htk i k b a1),this.1.2.1,Nat.lt_of_lt_of_le this.1.2.2 W.size⟩,fun q b' o a2 a3 => this.2 q b' o (W.someOf a2) (W.ρ ▸ a3)⟩
  td := h.td
  okz := fun b hk => by
   rcases W.new b hk with h1 | h1 | h1
   ·exact Nat.lt_of_lt_of_le (h.okz b h1) W.size
   ·exact h1.2
   ·exact h1.2
  grow := Nat.le_trans h.grow W.size
  frame := fun b h1 h2 => by
   have hb : ¬ B b := fun hb => (W.zone b hb).elim (fun h3 => by omega) h2
   exact (W.same b (Nat.lt_of_lt_of_le h1 h.grow) hb).trans (h.frame b h1 h2)
  env := ⟨W.env.1.trans h.env.1,W.env.2.trans h.env.2⟩
  fr := fun b off hb => (W.fr b off (Nat.lt_of_lt_of_le hb h.grow)).trans (h.fr b off hb)
  room := fun b n hr => W.room b n (h.room b n hr)
  lent := fun i p a1 a2 => by rw [W.ρ]; exact h.lent i p a1 (W.someOf a2)
  okU := fun b hb => W.ok b (h.okU b hb)
  okL := fun b hk => by
   rcases W.new b hk with h1 | h1 | h1
   ·exact h.okL b h1
   ·exact .inr (W.zone b h1.1)
   ·exact .inr (.inl (Nat.le_trans h.grow h1.1)) }
theorem OwnRep.one {K : Nat → Prop} {v : Value} {z : Nat} {xs : List A} {b : Option Nat} (h : OwnRep φ w K v z xs b) : (∀ cs,v ≠ .agg cs) ∧ (∀ vs,v ≠ .tuple vs) := by
 cases h <;> exact ⟨(fun _ h => by cases h),(fun _ h => by cases h)⟩
theorem CellRep.one {K : Nat → Prop} {v : Value} {x : A} {b : Option Nat} (h : CellRep φ w K v x b) : (∀ cs,v ≠ .agg cs) ∧ (∀ vs,v ≠ .tuple vs) := by
 cases h with
 | data _ h ha => exact h.oneCell ha
 | own z xs _ h => exact h.one
theorem CellRep.nagg {K : Nat → Prop} {v : Value} {x : A} {b : Option Nat} (h : CellRep φ w K v x b) (l : List A) : x ≠ .agg l := by
 cases h with
 | data _ h ha => exact ha l
 | own => exact fun e => by cases e
theorem CellReps.length {K : Nat → Prop} : ∀ {vs : List Value} {xs : List A} {bs : List Nat},CellReps φ w K vs xs bs → vs.length = xs.length
 | _,_,_,.nil => rfl
 | _,_,_,.cons _ _ _ _ _ _ _ t => congrArg (· + 1) t.length
theorem CellReps.get {K : Nat → Prop} : ∀ {vs : List Value} {xs : List A} {bs : List Nat},CellReps φ w K vs xs bs → ∀ {j : Nat} {v : Value} {x : A},vs[j]? = some v → xs[j]? = some x → ∃ b,CellRep φ w K v x b
 | _,_,_,.nil,j,_,_,h,_ => by simp at h
 | _,_,_,.cons _ _ _ _ _ _ h t,0,v,x,hv,hx => by simp at hv hx; subst hv; subst hx; exact ⟨_,h⟩
 | _,_,_,.cons _ _ _ _ _ _ h t,j + 1,v,x,hv,hx => t.get (by simpa using hv) (by simpa using hx)
theorem SimE.rootOwn (h : SimE φ w0 L E st ev w) {v : Value} {z : Nat} {xs : List A} {ob : Option Nat} (hv : OwnRep φ w E.ok v z xs ob) (hF : ∀ b,ob = some b → Fresh w0 L E st ev w b) {q : Nat} (hpl : L.pl q = none ∨ ∃ b o n cap,v = .slice (some ⟨b,o,none⟩) n cap ∧ cap ≠ 0 ∧ L.pl q = some (b,o))
 (hc : ∀ p' R',st.r p' = some R' → R'.b = true → ∀ x ∈ R'.xs,∀ y ∈ x.cells,refs1 q y = false) :
 ∃ E',SimE φ w0 L E' ((st.kill q).setRoot q (some ⟨false,z,xs⟩)) ev w ∧ Step (· = q) E st E' ((st.kill q).setRoot q (some ⟨false,z,xs⟩)) ∧ E'.ok = E.ok ∧
   RV1 φ E' ((st.kill q).setRoot q (some ⟨false,z,xs⟩)).r w v (.view q 0 xs.length) ∧ ∀ b,ob ≠ some b → Fresh w0 L E st ev w b → Fresh w0 L E' ((st.kill q).setRoot q (some ⟨false,z,xs⟩)) ev w b := by
 have h1 := ((h.kill q).unroot q)
 rw [← setRoot_twice]
 have hn : ∀ i,refs q (((st.kill q).setRoot q none).t i) = false := fun i => refs_kill q _
 have hq0 : (((st.kill q).setRoot q none).r q) = none := by simp [St.setRoot]
 have hc' : ∀ p' R',((st.kill q).setRoot q none).r p' = some R' → R'.b = true → ∀ x ∈ R'.xs,∀ y ∈ x.cells,refs1 q y = false := fun p' R' hp hb => by
  simp only [St.setRoot] at hp
  split at hp
  ·cases hp
  ·exact hc p' R' hp hb
 have step : ∀ p,Step (· = q) E st ⟨E.ok,fun i => if i = q then p else E.ρ i⟩ (((st.kill q).setRoot q none).setRoot q (some ⟨false,z,xs⟩)) := fun p => by
  refine ⟨fun _ h => h,fun p' hp => if_neg hp,fun p' hp => .inl ?_,fun p' R hp hR _ => ?_,fun p' R hp hR => .inl ?_⟩
  ·simp [St.setRoot,St.kill,St.map,hp]
  ·simpa [St.setRoot,St.kill,St.map,hp] using hR
  ·simp [St.setRoot,hp] at hR; rw [← hR]
 have fresh : ∀ (p : Option (Nat × Nat)) b,(∀ o,p ≠ some (b,o)) → Fresh w0 L E st ev w b → Fresh w0 L ⟨E.ok,fun i => if i = q then p else E.ρ i⟩ (((st.kill q).setRoot q none).setRoot q (some ⟨false,z,xs⟩)) ev w b := by
  intro p b hne hf
  refine ⟨hf.z,fun q' b' o' a1 a2 e => ?_,fun i k b' a1 => hf.t i k b' (Tk.comps (fd_kill q) a1).1⟩
  subst e
  by_cases e : q' = q
  ·simp [e] at a2; exact hne _ a2
  ·simp [e] at a2
   exact hf.r q' b' o' (by simpa [St.setRoot,St.kill,St.map,e] using a1) a2 rfl
 cases hv with
 | empty ad z =>
   refine ⟨_,h1.root (p := none) (R := ⟨false,z,[]⟩) hq0 hn hc' (fun b o e => by cases e) (fun p' e => by
    rcases hpl with h1 | ⟨b,o,n,cap,h1,h2,h3⟩
    ·rw [h1] at e; cases e
    ·simp only [Value.slice.injEq] at h1; exact absurd h1.2.2.symm h2) (.empty z (by simp)),step none,rfl,?_,fun b _ hf => fresh none b (fun o e => by cases e) hf⟩
   exact .viewE ad q 0 ⟨false,z,[]⟩ (by simp [St.setRoot]) rfl (Nat.zero_le _)
 | mk b o cap z xs vs hcc h0 hz hh hv' hrm =>
   have hf := hF b rfl
   refine ⟨_,h1.root (p := some (b,o)) (R := ⟨false,z,xs⟩) hq0 hn hc' (fun b' o' e => ?_) (fun p' e => by
    rcases hpl with h1 | ⟨b2,o2,n2,cap2,h1,h2,h3⟩
    ·rw [h1] at e; cases e
    ·simp only [Value.slice.injEq,Option.some.injEq,Addr.mk.injEq] at h1
     rw [h3] at e; rw [h1.1.1,h1.1.2.1]; exact e) (.sl b o z xs vs (by simp) hz hh hv' (hrm.le ?_)),step _,rfl,?_,fun b' hne hf' => fresh _ b' (fun o' e => hne (by cases e; rfl)) hf'⟩
   ·cases e
    refine ⟨hf.z,fun q' b' o' a1 a2 => hf.r q' b' o' ?_ a2,fun i' k' b' a1 => hf.t i' k' b' (Tk.comps (fd_kill q) a1).1⟩
    simp only [St.setRoot] at a1
    split at a1
    ·cases a1
    ·exact a1
   ·have := Nat.mul_le_mul_right z hcc; omega
   ·have := RV1.view (φ := φ) (E := ⟨E.ok,fun i => if i = q then some (b,o) else E.ρ i⟩) (r := (((st.kill q).setRoot q none).setRoot q (some ⟨false,z,xs⟩)).r) (w := w) b o cap q 0 xs.length ⟨false,z,xs⟩
     (by simp [St.setRoot]) rfl (by simp) hcc h0 (by simp) (by simpa using hrm)
    simpa using this
theorem SimE.takes {q : Nat} : ∀ {vs : List Value} {xs : List A} {bs : List Nat} {c : Nat} {E : Env} {st : St} {ys : List A} {st1 : St} (h : SimE φ w0 L E st ev w) (ha : Ab.takes q c st xs = some (ys,st1)) (hv : CellReps φ w E.ok vs xs bs)
 (hnd : bs.Nodup) (hF : ∀ b ∈ bs,Fresh w0 L E st ev w b) (hlt : c + xs.length ≤ 1000)
 (hc : ∀ c',c ≤ c' → c' < c + xs.length → ∀ p' R',st.r p' = some R' → R'.b = true → ∀ x ∈ R'.xs,∀ y ∈ x.cells,refs1 (sub q c') y = false),
 ∃ E',SimE φ w0 L E' st1 ev w ∧ Step (fun p => ∃ c',c ≤ c' ∧ c' < c + xs.length ∧ p = sub q c') E st E' st1 ∧ E'.ok = E.ok ∧ ys.length = xs.length ∧
   (∀ i v y,vs[i]? = some v → ys[i]? = some y → CellOk φ E' st1.r w q (c + i) v y) ∧ ∀ b,b ∉ bs → Fresh w0 L E st ev w b → Fresh w0 L E' st1 ev w b := by
 intro vs xs
 induction xs generalizing vs with
 | nil =>
   intro bs c E st ys st1 h ha hv _ _ _ _
   simp [Ab.takes] at ha
   obtain ⟨rfl,rfl⟩ := ha
   exact ⟨E,h,.refl _,rfl,rfl,fun i v y _ hy => by simp at hy,fun b _ hf => hf⟩
 | cons x xs ih =>
   intro bs c E st ys st1 h ha hv hnd hF hlt hc
   simp only [Ab.takes] at ha
   obtain ⟨⟨y,s⟩,hs,ha⟩ := Option.bind_eq_some_iff.1 ha
   obtain ⟨⟨ys',s2⟩,hys,ha⟩ := Option.map_eq_some_iff.1 ha
   simp only [Prod.mk.injEq] at ha
   obtain ⟨rfl,rfl⟩ := ha
   simp only [List.length_cons] at hlt hc
   cases hv with
   | cons v _ b vs _ bs hv0 ht =>
     obtain ⟨hn1,hn2,hn3⟩ := List.nodup_append.1 hnd
     have first : ∃ E1,SimE φ w0 L E1 s ev w ∧ Step (· = sub q c) E st E1 s ∧ E1.ok = E.ok ∧ CellOk φ E1 s.r w q c v y ∧ ∀ b',b ≠ some b' → Fresh w0 L E st ev w b' → Fresh w0 L E1 s ev w b' := by
      cases hv0 with
      | data _ hr hna =>
        have hp : take1 q c st x = if Ab.pureC x then some (x,st) else none := by
         cases hr <;> rfl
        rw [hp] at hs
        split at hs
        ·simp only [Option.some.injEq,Prod.mk.injEq] at hs
         obtain ⟨rfl,rfl⟩ := hs
         exact ⟨E,h,.refl _,rfl,.data _ _ hr hna,fun _ _ hf => hf⟩
        ·cases hs
      | own z xs' _ ho =>
        simp only [take1] at hs
        split at hs
        ·rename_i hc1
         simp only [Option.some.injEq,Prod.mk.injEq] at hs
         obtain ⟨rfl,rfl⟩ := hs
         obtain ⟨E1,a1,a2,a3,a4,a5⟩ := h.rootOwn (q := sub q c) ho (fun b' e => hF b' (List.mem_append_left _ (by simp [e]))) (.inl Lent.sub) (hc c (Nat.le_refl _) (by omega))
         exact ⟨E1,a1,a2,a3,.view _ _ _ hc1 a4 ho.one,a5⟩
        ·cases hs
     obtain ⟨E1,h1,hst,hok,hcell,hfr⟩ := first
     have hK : CellReps φ w E1.ok vs xs bs := by rw [hok]; exact ht
     obtain ⟨E2,h2,hst2,hok2,hl,hall,hfr2⟩ := ih h1 hys hK hn2 (fun b' hb' => hfr b' (fun e => hn3 b' (by simp [e]) b' hb' rfl) (hF b' (List.mem_append_right _ hb'))) (by omega)
      (fun c' a1 a2 p' R' hp hb => hc c' (by omega) (by omega) p' R' (hst.box hp hb) hb)
     have hinj : ∀ c',c + 1 ≤ c' → sub q c ≠ sub q c' := fun c' a1 e => by simp only [sub] at e; omega
     refine ⟨E2,h2,?_,hok2.trans hok,by simp [hl],fun i v' y' hv' hy' => ?_,fun b' hb' hf => hfr2 b' (fun hm => hb' (List.mem_append_right _ hm)) (hfr b' (fun e => hb' (List.mem_append_left _ (by simp [e]))) hf)⟩
     ·refine Step.trans (E1 := E1) (st1 := s) ⟨hst.ok,fun p hp => hst.ρ p fun e => hp ⟨c,by omega,by simp,e⟩,fun p hp => hst.r p fun e => hp ⟨c,by omega,by simp,e⟩,fun p R hp => hst.b p R fun e => hp ⟨c,by omega,by simp,e⟩,fun p R _ hR => ?_⟩
       ⟨hst2.ok,fun p hp => hst2.ρ p ?_,fun p hp => hst2.r p ?_,fun p R hp => hst2.b p R ?_,fun p R _ hR => ?_⟩
      ·by_cases e : p = sub q c
       ·exact hst.s p R e hR
       ·rcases hst.r p e with h3 | h3
        ·exact .inr (h3 ▸ hR)
        ·rw [h3] at hR; cases hR
      ·rintro ⟨c',a1,a2,e⟩; exact hp ⟨c',by omega,by simp; omega,e⟩
      ·rintro ⟨c',a1,a2,e⟩; exact hp ⟨c',by omega,by simp; omega,e⟩
      ·rintro ⟨c',a1,a2,e⟩; exact hp ⟨c',by omega,by simp; omega,e⟩
      ·by_cases e : ∃ c',c + 1 ≤ c' ∧ c' < c + 1 + xs.length ∧ p = sub q c'
       ·exact hst2.s p R e hR
       ·rcases hst2.r p e with h3 | h3
        ·exact .inr (h3 ▸ hR)
        ·rw [h3] at hR; cases hR
     ·cases i with
      | zero =>
        simp at hv' hy'; subst hv'; subst hy'
        exact hcell.step hst2 (fun ⟨c',a1,a2,e⟩ => hinj c' a1 e)
      | succ i =>
        have := hall i v' y' (by simpa using hv') (by simpa using hy')
        rwa [show c + (i + 1) = c + 1 + i from by omega]
theorem SimE.takeVar (h : SimE φ w0 L E st ev w) {q z : Nat} {x : A} {v : Value} {bs : List Nat} {st1 : St} (ha : Ab.takeVar st q z x = some st1) (hv : BoxRep φ w E.ok v z x bs) (hnd : bs.Nodup)
 (hF : ∀ b ∈ bs,Fresh w0 L E st ev w b) (hpl : ∀ p',L.pl q = some p' → v = .pointer (some ⟨p'.1,p'.2,none⟩)) :
 ∃ E',SimE φ w0 L E' st1 ev w ∧ E'.ok = E.ok ∧ RV1 φ E' st1.r w v (.loc q 0 0) ∧ (∀ b,b ∉ bs → Fresh w0 L E st ev w b → Fresh w0 L E' st1 ev w b) := by
 unfold Ab.takeVar at ha
 split at ha
 ·rename_i hq
  obtain ⟨hq,hlt⟩ := hq
  obtain ⟨⟨cs,s⟩,hs,ha⟩ := Option.map_eq_some_iff.1 ha
  simp only at ha
  subst ha
  cases hv with
  | mk b o z x vs bs hcr hcl hrm hz =>
    have h1 := (h.kill q).unroot q
    have hfr1 : ∀ b,Fresh w0 L E st ev w b → Fresh w0 L E ((st.kill q).setRoot q none) ev w b := fun b hf => ⟨hf.z,fun q' b' o' a1 a2 => hf.r q' b' o' (by
     simp only [St.setRoot] at a1
     split at a1
     ·cases a1
     ·exact a1) a2,fun i k b' a1 => hf.t i k b' (Tk.comps (fd_kill q) a1).1⟩
    obtain ⟨hb1,hb2⟩ := List.nodup_cons.1 hnd
    obtain ⟨E1,h2,hst,hok,hl,hall,hfr⟩ := h1.takes hs hcr hb2 (fun b' hb' => hfr1 b' (hF b' (List.mem_cons_of_mem _ hb'))) (by omega) (fun c' a1 a2 p' R' hp hb x hx y hy => by
     cases hr : refs1 (sub q c') y with
     | false => rfl
     | true =>
       obtain ⟨c2,hc2,e2,_⟩ := h1.cell_ref hp hb hx hy hr
       have e3 := (sub_inj (by omega) hc2 e2).1
       simp [St.setRoot,← e3] at hp)
    have hlv := hcr.length
    have hna : ∀ y ∈ cs,∀ l,y ≠ .agg l := fun y hy => by
     obtain ⟨c,hc⟩ := List.mem_iff_getElem?.1 hy
     have hcl : c < vs.length := by
      rcases Nat.lt_or_ge c cs.length with h | h
      ·omega
      ·simp [List.getElem?_eq_none h] at hc
     exact (hall c vs[c] y (by simp) hc).nagg
    have hrc : (reCell x cs).cells = cs := reCell_cells hl hna
    have h3 := h2.box (d := q) (z := z) (o := o) (b := b) (x := reCell x cs) (vs := vs) hq (fun p' e => by have := hpl p' e; simp only [Value.pointer.injEq,Option.some.injEq,Addr.mk.injEq] at this; exact Prod.ext this.1.symm this.2.1.symm) (hfr b hb1 (hfr1 b (hF b (List.mem_cons_self ..)))) (by rw [hrc,hl,hz]) (by rw [hrc,hl,hlv])
     (fun c u y hu hy => by have := hall c u y hu (by rw [hrc] at hy; exact hy); rwa [Nat.zero_add] at this) hcl hrm
    refine ⟨_,h3,hok,?_,fun b' hb' hf => ?_⟩
    ·have := RV1.loc (φ := φ) (E := ⟨E1.ok,fun i => if i = q then some (b,o) else E1.ρ i⟩) (r := ((s.kill q).setRoot q (some ⟨true,z,[reCell x cs]⟩)).r) (w := w) b o q 0 0 ⟨true,z,[reCell x cs]⟩ (by simp [St.setRoot]) (by simp)
     simpa using this
    ·have hf2 := hfr b' (fun hm => hb' (List.mem_cons_of_mem _ hm)) (hfr1 b' hf)
     refine ⟨hf2.z,fun q' b2 o' a1 a2 e => ?_,fun i k b2 a1 => hf2.t i k b2 (Tk.comps (fd_kill q) a1).1⟩
     subst e
     by_cases e : q' = q
     ·simp [e] at a2
      exact hb' (by rw [← a2.1]; exact List.mem_cons_self ..)
     ·simp [e] at a2
      exact hf2.r q' b2 o' (by simpa [St.setRoot,St.kill,St.map,e] using a1) a2 rfl
 ·cases ha
end
end Go.Ab
namespace Go.Ab
section
variable {P : Program} {φ : Nat → Nat} {w0 : World} {L : Lent} {E E' : Env} {st st' : St} {ev ev' : Nat → Value} {w w' : World} {r r' : Nat → Option Root} {a : Act}
def NB (E : Env) (st : St) (bs ns : List Nat) : Prop := (∀ b ∈ bs,∃ p ∈ ns,(st.r p).isSome = true ∧ ∃ o,E.ρ p = some (b,o)) ∧ (ns.Nodup → bs.Nodup)
theorem NB.nil : NB E st [] [] := ⟨(fun b h => by cases h),(fun _ => List.nodup_nil)⟩
theorem NB.none (ns : List Nat) : NB E st [] ns := ⟨(fun b h => by cases h),(fun _ => List.nodup_nil)⟩
theorem NB.one {b o p : Nat} (hl : (st.r p).isSome = true) (hρ : E.ρ p = some (b,o)) : NB E st [b] [p] :=
 ⟨fun c hc => by rw [List.mem_singleton] at hc; subst hc; exact ⟨p,List.mem_singleton.2 rfl,hl,o,hρ⟩,fun _ => by simp⟩
theorem NB.append (h : SimE φ w0 L E st ev w) {bs cs ns ms : List Nat} (h1 : NB E st bs ns) (h2 : NB E st cs ms) : NB E st (bs ++ cs) (ns ++ ms) := by
 refine ⟨fun b hb => ?_,fun hn => ?_⟩
 ·rcases List.mem_append.1 hb with hb | hb
  ·obtain ⟨p,hp,hx⟩ := h1.1 b hb; exact ⟨p,List.mem_append_left _ hp,hx⟩
  ·obtain ⟨p,hp,hx⟩ := h2.1 b hb; exact ⟨p,List.mem_append_right _ hp,hx⟩
 ·obtain ⟨n1,n2,n3⟩ := List.nodup_append.1 hn
  refine List.nodup_append.2 ⟨h1.2 n1,h2.2 n2,fun b hb c hc e => ?_⟩
  subst e
  obtain ⟨p,hp,hl,o,hρ⟩ := h1.1 b hb
  obtain ⟨p',hp',hl',o',hρ'⟩ := h2.1 b hc
  exact h.inj p p' b o b o' hl hl' hρ hρ' (n3 p hp p' hp') rfl
theorem view_own {q off n : Nat} {R : Root} (hro : RootOk φ E r w q R) (hR : r q = some R) {v : Value} (hv : RV1 φ E r w v (.view q off n)) :
 ∃ ob,OwnRep φ w E.ok v R.z ((R.xs.drop off).take n) ob ∧ (∀ b,ob = some b → ∃ o,E.ρ q = some (b,o)) := by
 cases hv with
 | data _ _ h => cases h
 | viewN _ _ _ _ h1 => rw [h1] at hR; cases hR
 | viewE ad q off R' h1 hb hn =>
   rw [List.take_zero]
   exact ⟨none,.empty _ _,fun b e => by cases e⟩
 | view b o cap q off n R' h1 hb hn hcc h0 hρ hrm =>
   rw [h1] at hR; cases hR
   have hlen : ((R.xs.drop off).take n).length = n := by simp; omega
   cases hro with
   | empty z h => rw [h] at hρ; cases hρ
   | box => cases hb
   | sl b1 o1 z xs vs hρ1 hzz hh hv' hrm' =>
     rw [hρ] at hρ1; cases hρ1
     have := OwnRep.mk (φ := φ) (w := w) (K := E.ok) b (o + off * z) cap z ((xs.drop off).take n) ((vs.drop (off * z)).take (n * z)) (by simp only at hlen; rw [hlen]; exact hcc) h0
      (fun y hy => hzz y (List.mem_of_mem_drop (List.mem_of_mem_take hy))) (by
        rw [flat_take (fun x hx => hzz x (List.mem_of_mem_drop hx)),flat_drop hzz]
        exact (hh.drop _).take _) ((hv'.drop _).take _) (by rw [Nat.add_mul,← Nat.add_assoc] at hrm; exact hrm)
     simp only at hlen
     rw [hlen] at this
     exact ⟨some b,this,fun b' e => by cases e; exact ⟨o,hρ⟩⟩
theorem lends_reps (h : SimE φ w0 L E st ev w) {q : Nat} : ∀ {xs ys : List A} {vs : List Value} {c : Nat},vs.length = xs.length → (∀ (j : Nat) (v : Value) (x : A),vs[j]? = some v → xs[j]? = some x → CellOk φ E st.r w q (c + j) v x) → lends st.r xs = some ys →
 ∃ bs,CellReps φ w E.ok vs ys bs ∧ NB E st bs (xs.flatMap rootOf1) ∧ ys.length = xs.length
 | [],ys,vs,c,hl,_,hc => by
   simp [lends] at hc; subst hc
   obtain rfl : vs = [] := List.eq_nil_of_length_eq_zero (by simpa using hl)
   exact ⟨[],.nil,NB.nil,rfl⟩
 | x :: xs,ys,[],c,hl,_,_ => by simp at hl
 | x :: xs,ys,v :: vs,c,hl,hcell,hc => by
   simp only [lends] at hc
   obtain ⟨y,hy,hc⟩ := Option.bind_eq_some_iff.1 hc
   obtain ⟨ys',hys,rfl⟩ := Option.map_eq_some_iff.1 hc
   obtain ⟨bs,h1,h2,h3⟩ := lends_reps h (c := c + 1) (by simpa using hl) (fun j v' x' hv hx => by
    have := hcell (j + 1) v' x' (by simpa using hv) (by simpa using hx)
    rwa [show c + (j + 1) = c + 1 + j from by omega] at this) hys
   have h0 := hcell 0 v x rfl rfl
   have first : ∃ b : Option Nat,CellRep φ w E.ok v y b ∧ NB E st b.toList (rootOf1 x) := by
    cases h0 with
    | data _ hr hna =>
      have hp : lend1 st.r x = if Ab.pureC x then some x else none := by cases hr <;> rfl
      rw [hp] at hy
      split at hy
      ·simp only [Option.some.injEq] at hy; subst hy
       exact ⟨none,.data _ _ hr hna,NB.none _⟩
      ·cases hy
    | any => simp [lend1,Ab.pureC] at hy
    | view off n hc' hrv hone =>
      simp only [lend1] at hy
      obtain ⟨R,hR,rfl⟩ := Option.map_eq_some_iff.1 hy
      obtain ⟨ob,ho,hρ⟩ := view_own (h.roots _ R hR) hR hrv
      refine ⟨ob,.own _ _ _ _ ho,?_⟩
      cases ob with
      | none => exact NB.none _
      | some b => obtain ⟨o,hρ'⟩ := hρ b rfl; exact NB.one (by rw [hR]; rfl) hρ'
   obtain ⟨b,h4,h5⟩ := first
   exact ⟨b.toList ++ bs,.cons _ _ _ _ _ _ h4 h1,by rw [List.flatMap_cons]; exact h5.append h h2,by simp [h3]⟩
theorem OwnRep.cap {K : Nat → Prop} {v : Value} {z : Nat} {xs : List A} {ob : Option Nat} (h : OwnRep φ w K v z xs ob) : ob = none ∨ ∃ b o n cap,v = .slice (some ⟨b,o,none⟩) n cap ∧ cap ≠ 0 := by
 cases h with
 | empty => exact .inl rfl
 | mk b o cap z xs vs hc h0 => exact .inr ⟨b,o,_,cap,rfl,h0⟩
inductive LO (φ : Nat → Nat) (E : Env) (st : St) (w w' : World) (K' : Nat → Prop) : List Nat → List A → List Nat → List Nat → List Nat → Prop
 | nil : LO φ E st w w' K' [] [] [] [] []
 | iob (q z b o : Nat) (e y : A) (bs qs os ns ob em : _) (hR : st.r q = some ⟨true,z,[e]⟩) (hρ : E.ρ q = some (b,o)) (hB : BoxRep φ w' K' (.pointer (some ⟨b,o,none⟩)) z y (b :: bs))
    (t : LO φ E st w w' K' qs os ns ob em) : LO φ E st w w' K' (q :: qs) (.iob z [y] :: os) (q :: e.cells.flatMap rootOf1 ++ ns) (b :: bs ++ ob) em
 | ios (q z : Nat) (v : Value) (xs ys : List A) (b : Option Nat) (qs os ns ob em : _) (hR : st.r q = some ⟨false,z,xs⟩) (hv : RV1 φ E st.r w v (.view q 0 xs.length)) (ho : OwnRep φ w' K' v z ys b) (hl : ys.length = xs.length)
    (t : LO φ E st w w' K' qs os ns ob em) : LO φ E st w w' K' (q :: qs) (.ios z ys :: os) (q :: ns) (b.toList ++ ob) (if b.isNone then q :: em else em)
 | gone (q z : Nat) (xs : List A) (qs os ns ob em : _) (hR : st.r q = some ⟨false,z,xs⟩) (t : LO φ E st w w' K' qs os ns ob em) : LO φ E st w w' K' (q :: qs) (.any :: os) (q :: ns) ob em
theorem args_ok (h : SimE φ w0 L E st ev w) {Ns : List Nat} : ∀ {xs : List A} {vs : List Value} {io : List Bool} {ls : List (Option A)} {qs ns : List Nat} {as : List A},All2 (RV φ E st.r w) vs xs → loans st io xs = some (ls,qs,ns) →
 args1 { st with r := less st.r Ns } ls xs = some as →
 ∃ bs,ArgReps φ w E.ok vs as bs ∧ NB E st bs ns ∧ ∀ {w' : World} {K' : Nat → Prop} {outs : List A} {ob : List Nat},OutReps φ w' K' vs as outs ob → ∃ em,LO φ E st w w' K' qs outs ns ob em ∧
   (∀ q ∈ em,q ∈ ns ∧ (st.r q).isSome = true) ∧ (ns.Nodup → ∀ q ∈ em,∀ b o,E.ρ q = some (b,o) → b ∉ bs)
 | [],vs,io,ls,qs,ns,as,hv,hl,ha => by
   obtain rfl : vs = [] := List.eq_nil_of_length_eq_zero hv.1
   simp [loans] at hl
   obtain ⟨rfl,rfl,rfl⟩ := hl
   simp [args1] at ha; subst ha
   exact ⟨[],.nil,NB.nil,fun ho => by cases ho; exact ⟨[],.nil,(fun _ h => by cases h),(fun _ _ h => by cases h)⟩⟩
 | x :: xs,vs,io,ls,qs,ns,as,hv,hl,ha => by
   obtain ⟨v,vs,rfl,hx,hvs⟩ := hv.uncons
   have plain : ∀ {ls' qs' ns'},loans st io.tail xs = some (ls',qs',ns') → ls = none :: ls' → qs = qs' → ns = ns' →
    ∃ bs,ArgReps φ w E.ok (v :: vs) as bs ∧ NB E st bs ns ∧ ∀ {w' : World} {K' : Nat → Prop} {outs : List A} {ob : List Nat},OutReps φ w' K' (v :: vs) as outs ob → ∃ em,LO φ E st w w' K' qs outs ns ob em ∧
      (∀ q ∈ em,q ∈ ns ∧ (st.r q).isSome = true) ∧ (ns.Nodup → ∀ q ∈ em,∀ b o,E.ρ q = some (b,o) → b ∉ bs) := by
    intro ls' qs' ns' hl' e1 e2 e3
    subst e1; subst e2; subst e3
    simp only [args1] at ha
    split at ha
    ·cases ha
    ·rename_i how
     obtain ⟨y,hy,ha⟩ := Option.bind_eq_some_iff.1 ha
     obtain ⟨ys,hys,rfl⟩ := Option.map_eq_some_iff.1 ha
     obtain ⟨bs,h1,h2,h3⟩ := args_ok h (Ns := Ns) hvs hl' hys
     have hxw : RV φ E (less st.r Ns) w v x := hx.imp fun v x hx => hx.weak (fun _ h => h) (fun q R hq => by
      simp only [less] at hq
      split at hq
      ·cases hq
      ·exact ⟨hq,rfl⟩)
     have hrep : Rep φ w E.ok v y := hxw.free (by simpa using how) hy
     refine ⟨bs,by have := ArgReps.cons _ _ _ _ _ _ (.data _ _ hrep) h1; simpa using this,h2,fun ho => ?_⟩
     cases ho with
     | data _ _ _ _ _ _ _ t => exact h3 t
     | iob => cases hrep
     | ios => cases hrep
     | gone => cases hrep
   match io,hl with
   | [],hl =>
     simp only [loans] at hl
     obtain ⟨⟨ls',qs',ns'⟩,hl',hl⟩ := Option.map_eq_some_iff.1 hl
     simp only [Prod.mk.injEq] at hl
     exact plain hl' hl.1.symm hl.2.1.symm hl.2.2.symm
   | false :: io,hl =>
     simp only [loans] at hl
     obtain ⟨⟨ls',qs',ns'⟩,hl',hl⟩ := Option.map_eq_some_iff.1 hl
     simp only [Prod.mk.injEq] at hl
     exact plain hl' hl.1.symm hl.2.1.symm hl.2.2.symm
   | true :: io,hl =>
     simp only [loans] at hl
     obtain ⟨⟨q,y⟩,hq,hl⟩ := Option.bind_eq_some_iff.1 hl
     obtain ⟨⟨ls',qs',ns'⟩,hl',hl⟩ := Option.map_eq_some_iff.1 hl
     simp only [Prod.mk.injEq] at hl
     obtain ⟨rfl,rfl,rfl⟩ := hl
     simp only [args1] at ha
     obtain ⟨ys,hys,rfl⟩ := Option.map_eq_some_iff.1 ha
     obtain ⟨bs,h1,h2,h3⟩ := args_ok h (Ns := Ns) hvs hl' hys
     have hdisj : ∀ {bs1 ns1 : List Nat},NB E st bs1 ns1 → (ns1 ++ ns').Nodup → ∀ p ∈ ns',∀ b o,(st.r p).isSome = true → E.ρ p = some (b,o) → b ∉ bs1 := by
      intro bs1 ns1 hnb hn p hp b o hlv hρ hb
      obtain ⟨p',hp',hlv',o',hρ'⟩ := hnb.1 b hb
      exact h.inj p' p b o' b o hlv' hlv hρ' hρ ((List.nodup_append.1 hn).2.2 p' hp' p hp) rfl
     unfold loanOf at hq
     split at hq
     ·
      rename_i q0 _ _
      obtain ⟨R,hR,hq⟩ := Option.bind_eq_some_iff.1 hq
      split at hq
      ·rename_i e hb hxs
       obtain ⟨cs,hcs,hq⟩ := Option.map_eq_some_iff.1 hq
       simp only [Prod.mk.injEq] at hq
       obtain ⟨rfl,rfl⟩ := hq
       obtain ⟨Rb,Rz,Rxs⟩ := R
       simp only at hb hxs
       subst hb; subst hxs
       obtain ⟨b,o,hρ,hve⟩ := hx.loc_inv.loc_at hR
       subst hve
       cases h.roots _ _ hR with
       | box b1 o1 z _ us hρ1 hz hlt hlen hcells hcl hrm =>
         rw [hρ] at hρ1; cases hρ1
         obtain ⟨bs1,h4,h5,h6⟩ := lends_reps h (c := 0) hlen (fun j v x hv hx => by have := hcells j v x hv hx; rwa [Nat.zero_add]) hcs
         have hna : ∀ y ∈ cs,∀ l,y ≠ .agg l := fun y hy => by
          obtain ⟨c,hc⟩ := List.mem_iff_getElem?.1 hy
          have hcl : c < us.length := by
           rcases Nat.lt_or_ge c cs.length with h | h
           ·omega
           ·simp [List.getElem?_eq_none h] at hc
          obtain ⟨b',hb'⟩ := h4.get (j := c) (v := us[c]) (by simp) hc
          exact hb'.nagg
         have hrc : (reCell e cs).cells = cs := reCell_cells h6 hna
         have hbox : BoxRep φ w E.ok (.pointer (some ⟨b,o,none⟩)) Rz (reCell e cs) (b :: bs1) := .mk b o Rz _ us bs1 (by rw [hrc]; exact h4) hcl hrm (by rw [hrc,h6,hz])
         have hnm : names st.r (.loc q0 0 0) = q0 :: e.cells.flatMap rootOf1 := by simp [names,namesOf,hR]
         rw [hnm]
         have hnb : NB E st (b :: bs1) (q0 :: e.cells.flatMap rootOf1) := (NB.one (by rw [hR]; rfl) hρ).append h h5
         refine ⟨(b :: bs1) ++ bs,.cons _ _ _ _ _ _ (by simpa using ArgRep.iob _ _ _ _ hbox) h1,hnb.append h h2,fun ho => ?_⟩
         cases ho with
         | data _ _ _ _ _ _ hna t => exact absurd rfl (hna.1 _ _)
         | iob _ _ _ y1 ob1 _ _ os ob hB t =>
           obtain ⟨em,a1,a2,a3⟩ := h3 t
           have hB0 : ∃ bs2,ob1 = b :: bs2 := by
            simp only [Nat.zero_mul,Nat.add_zero] at hB
            cases hB; exact ⟨_,rfl⟩
           obtain ⟨bs2,rfl⟩ := hB0
           refine ⟨em,.iob q0 Rz b o e y1 bs2 _ _ _ _ em hR hρ (by simpa using hB) a1,fun q hq => ⟨List.mem_append_right _ (a2 q hq).1,(a2 q hq).2⟩,fun hn q hq b' o' hρ' => ?_⟩
           intro hm
           rcases List.mem_append.1 hm with hm | hm
           ·exact hdisj hnb hn q (a2 q hq).1 b' o' (a2 q hq).2 hρ' hm
           ·exact a3 (List.nodup_append.1 hn).2.1 q hq b' o' hρ' hm
      ·cases hq
     ·
      rename_i q0 n _ _
      obtain ⟨R,hR,hq⟩ := Option.bind_eq_some_iff.1 hq
      split at hq
      ·rename_i hcond
       simp only [Option.some.injEq,Prod.mk.injEq] at hq
       obtain ⟨rfl,rfl⟩ := hq
       obtain ⟨hn0,hb⟩ := hcond
       subst hn0
       obtain ⟨Rb,Rz,Rxs⟩ := R
       simp only at hb
       subst hb
       obtain ⟨ob0,ho0,hρ0⟩ := view_own (h.roots _ _ hR) hR hx.view_inv
       simp only [List.drop_zero,List.take_length] at ho0
       have hnm : names st.r (.view q0 0 Rxs.length) = [q0] := rfl
       rw [hnm]
       have hnb : NB E st ob0.toList [q0] := by
        cases ob0 with
        | none => exact NB.none _
        | some b => obtain ⟨o,hρ'⟩ := hρ0 b rfl; exact NB.one (by rw [hR]; rfl) hρ'
       refine ⟨ob0.toList ++ bs,.cons _ _ _ _ _ _ (.ios _ _ _ _ ho0) h1,hnb.append h h2,fun ho => ?_⟩
       cases ho with
       | data _ _ _ _ _ _ hna t => exact absurd rfl (hna.2 _ _)
       | ios _ _ _ ys1 b1 _ _ os ob hO hl t =>
         obtain ⟨em,a1,a2,a3⟩ := h3 t
         refine ⟨if b1.isNone then q0 :: em else em,.ios q0 Rz v Rxs ys1 b1 _ _ _ _ em hR hx.view_inv hO hl a1,fun q hq => ?_,fun hn q hq b' o' hρ' hm => ?_⟩
         ·split at hq
          ·rcases List.mem_cons.1 hq with rfl | hq
           ·exact ⟨by simp,by rw [hR]; rfl⟩
           ·exact ⟨List.mem_append_right _ (a2 q hq).1,(a2 q hq).2⟩
          ·exact ⟨List.mem_append_right _ (a2 q hq).1,(a2 q hq).2⟩
         ·have old : q ∈ em → False := fun hq => by
           rcases List.mem_append.1 hm with hm | hm
           ·exact hdisj hnb hn q (a2 q hq).1 b' o' (a2 q hq).2 hρ' hm
           ·exact a3 (List.nodup_append.1 hn).2.1 q hq b' o' hρ' hm
          split at hq
          ·rename_i hnone
           rcases List.mem_cons.1 hq with rfl | hq
           ·
            have hob0 : ob0 = none := by
             cases hO with
             | mk => simp at hnone
             | empty ad z =>
               rcases ho0.cap with h0 | ⟨b,o,n,cap,e,h0⟩
               ·exact h0
               ·simp only [Value.slice.injEq] at e
                exact absurd e.2.2.symm h0
            subst hob0
            simp only [Option.toList_none,List.nil_append] at hm
            obtain ⟨p',hp',hlv',o2,hρ2⟩ := h2.1 b' hm
            exact h.inj q p' b' o' b' o2 (by rw [hR]; rfl) hlv' hρ' hρ2 ((List.nodup_append.1 hn).2.2 q (by simp) p' hp') rfl
           ·exact old hq
          ·exact old hq
       | gone _ _ _ _ _ os ob t =>
         obtain ⟨em,a1,a2,a3⟩ := h3 t
         refine ⟨em,.gone q0 Rz Rxs _ _ _ _ em hR a1,fun q hq => ⟨List.mem_append_right _ (a2 q hq).1,(a2 q hq).2⟩,fun hn q hq b' o' hρ' hm => ?_⟩
         rcases List.mem_append.1 hm with hm | hm
         ·exact hdisj hnb hn q (a2 q hq).1 b' o' (a2 q hq).2 hρ' hm
         ·exact a3 (List.nodup_append.1 hn).2.1 q hq b' o' hρ' hm
      ·cases hq
     ·cases hq
end
end Go.Ab
namespace Go.Ab
section
variable {P : Program} {φ : Nat → Nat} {w0 : World} {L : Lent} {E E' : Env} {st st' : St} {ev ev' : Nat → Value} {w w' : World} {r r' : Nat → Option Root} {a : Act}
inductive LT (φ : Nat → Nat) (ρ : Nat → Option (Nat × Nat)) (w' : World) (K' : Nat → Prop) (r : Nat → Option Root) : List Nat → List A → List Nat → List Nat → Prop
 | nil : LT φ ρ w' K' r [] [] [] []
 | iob (q z b o : Nat) (y : A) (bs qs os mb fb : _) (hR : r q = some ⟨true,z,[reCell y (y.cells.map fun _ => .any)]⟩) (hρ : ρ q = some (b,o)) (hB : BoxRep φ w' K' (.pointer (some ⟨b,o,none⟩)) z y (b :: bs)) (hq : q ∉ qs)
    (t : LT φ ρ w' K' r qs os mb fb) : LT φ ρ w' K' r (q :: qs) (.iob z [y] :: os) (b :: mb) (bs ++ fb)
 | ios (q z : Nat) (ys : List A) (ob : Option Nat) (qs os mb fb : _) (t : LT φ ρ w' K' r qs os mb fb) : LT φ ρ w' K' r (q :: qs) (.ios z ys :: os) (ob.toList ++ mb) fb
 | gone (q : Nat) (qs os mb fb : _) (t : LT φ ρ w' K' r qs os mb fb) : LT φ ρ w' K' r (q :: qs) (.any :: os) mb fb
theorem view_at {q off n : Nat} {R : Root} {v : Value} (hv : RV1 φ E r w v (.view q off n)) (hR : r q = some R) : (∃ ad,v = .slice ad 0 0) ∨ ∃ b o cap,v = .slice (some ⟨b,o + off * R.z,none⟩) n cap ∧ E.ρ q = some (b,o) := by
 cases hv with
 | data _ _ h => cases h
 | viewN _ _ _ _ h1 => rw [h1] at hR; cases hR
 | viewE ad => exact .inl ⟨ad,rfl⟩
 | view b o cap q off n R2 h1 h2 h3 h4 h5 h6 h7 => rw [h1] at hR; cases hR; exact .inr ⟨b,o,cap,rfl,h6⟩
theorem blankAll_cells {y : A} : (reCell y (y.cells.map fun _ => .any)).cells = y.cells.map fun _ => .any :=
 reCell_cells (by simp) fun x hx l e => by
  obtain ⟨_,_,rfl⟩ := List.mem_map.1 hx
  cases e
theorem blanks_ok (h : SimE φ w0 L E st ev w) {K' : Nat → Prop} (room : ∀ b n,Room w b n → Room w' b n) : ∀ {qs : List Nat} {os : List A} {ns ob em : List Nat},LO φ E st w w' K' qs os ns ob em → ∀ {sti stB : St},
 ns.Nodup → (∀ p ∈ ns,sti.r p = st.r p) → blanks sti qs os = some stB →
 stB.t = sti.t ∧ (∀ p,p ∉ ns → stB.r p = sti.r p) ∧
 (∀ p R',p ∈ ns → stB.r p = some R' → (∃ R,st.r p = some R ∧ R'.b = R.b ∧ R'.z = R.z ∧ R'.xs.length = R.xs.length) ∧ (∀ r'',RootOk φ ⟨K',E.ρ⟩ r'' w' p R')) ∧ (∀ q ∈ qs,q ∈ ns) ∧
 ∃ mb fb,LT φ E.ρ w' K' stB.r qs os mb fb ∧ (∀ p R',p ∈ ns → stB.r p = some R' → p ∈ em ∨ ∀ b o,E.ρ p = some (b,o) → b ∈ mb) ∧
   (∀ b ∈ mb,b ∈ ob) ∧ (∀ b ∈ fb,b ∈ ob) ∧ (ob.Nodup → fb.Nodup ∧ ∀ b ∈ mb,b ∉ fb) := by
 intro qs os ns ob em hlo
 induction hlo with
 | nil =>
   intro sti stB hn hs hb
   simp [blanks] at hb; subst hb
   exact ⟨rfl,fun _ _ => rfl,(fun p R' hp => by cases hp),(fun q hq => by cases hq),[],[],.nil,(fun p R' hp => by cases hp),(fun b h => by cases h),(fun b h => by cases h),fun _ => ⟨List.nodup_nil,fun b h => by cases h⟩⟩
 | iob q z b o e y bs qs os ns ob em hR hρ hB t ih =>
   intro sti stB hn hs hb
   obtain ⟨hn1,hn2,hn3⟩ := List.nodup_append.1 hn
   obtain ⟨hn4,hn5⟩ := List.nodup_cons.1 hn1
   simp only [blanks] at hb
   rw [hs q (by simp),hR] at hb
   simp only [Option.bind_some] at hb
   have hqns : q ∉ ns := fun hq => hn3 q (by simp) q hq rfl
   obtain ⟨g1,g2,g3,g4,mb,fb,g5,g6,g7,g8,g9⟩ := ih hn2 (fun p hp => by
    have h1 : p ≠ q := fun e => hqns (e ▸ hp)
    have h2 : p ∉ e.cells.flatMap rootOf1 := fun hm => hn3 p (List.mem_cons_of_mem _ hm) p hp rfl
    simp only [h1,if_false]
    rw [if_neg (by simpa using h2)]
    exact hs p (List.mem_append_right _ hp)) hb
   have hq2 : stB.r q = some ⟨true,z,[reCell y (y.cells.map fun _ => .any)]⟩ := by rw [g2 q hqns]; simp
   have hq1000 : q < 1000 := by cases h.roots q _ hR; assumption
   have hroot : ∀ r'',RootOk φ ⟨K',E.ρ⟩ r'' w' q ⟨true,z,[reCell y (y.cells.map fun _ => .any)]⟩ := fun r'' => by
    cases hB with
    | mk _ _ _ _ vs _ hcr hcl hrm hz =>
      refine .box b o z _ vs hρ (by rw [blankAll_cells]; simpa using hz) hq1000 (by rw [blankAll_cells]; simpa using hcr.length) (fun c v x hv hx => ?_) hcl hrm
      rw [blankAll_cells] at hx
      simp only [List.getElem?_map,Option.map_eq_some_iff] at hx
      obtain ⟨x0,hx0,rfl⟩ := hx
      obtain ⟨b',hb'⟩ := hcr.get hv hx0
      exact .any _ hb'.one
   refine ⟨g1,fun p hp => ?_,fun p R' hp hR' => ?_,fun q' hq' => ?_,b :: mb,bs ++ fb,.iob q z b o y bs _ _ _ _ hq2 hρ hB (fun hq => hqns (g4 q hq)) g5,fun p R' hp hR' => ?_,fun b' hb' => ?_,fun b' hb' => ?_,fun hnd => ?_⟩
   ·simp only [List.mem_append,List.mem_cons,not_or] at hp
    rw [g2 p hp.2]
    simp only [hp.1.1,if_false]
    rw [if_neg (by simpa using hp.1.2)]
   ·by_cases e1 : p = q
    ·subst e1
     rw [hq2] at hR'; cases hR'
     exact ⟨⟨_,hR,rfl,rfl,rfl⟩,hroot⟩
    ·rcases List.mem_append.1 hp with hp | hp
     ·rcases List.mem_cons.1 hp with hp | hp
      ·exact absurd hp e1
      ·have hpn : p ∉ ns := fun hm => hn3 p (List.mem_cons_of_mem _ hp) p hm rfl
       rw [g2 p hpn] at hR'
       simp only [e1,if_false] at hR'
       rw [if_pos (by simpa using hp)] at hR'
       cases hR'
     ·exact g3 p R' hp hR'
   ·rcases List.mem_cons.1 hq' with rfl | hq'
    ·simp
    ·exact List.mem_append_right _ (g4 q' hq')
   ·by_cases e1 : p = q
    ·subst e1
     exact .inr fun b' o' hρ' => by rw [hρ] at hρ'; cases hρ'; simp
    ·rcases List.mem_append.1 hp with hp | hp
     ·rcases List.mem_cons.1 hp with hp | hp
      ·exact absurd hp e1
      ·have hpn : p ∉ ns := fun hm => hn3 p (List.mem_cons_of_mem _ hp) p hm rfl
       rw [g2 p hpn] at hR'
       simp only [e1,if_false] at hR'
       rw [if_pos (by simpa using hp)] at hR'
       cases hR'
     ·exact (g6 p R' hp hR').imp id fun h1 b' o' hρ' => List.mem_cons_of_mem _ (h1 b' o' hρ')
   ·rcases List.mem_cons.1 hb' with rfl | hb'
    ·simp
    ·exact List.mem_append_right _ (g7 b' hb')
   ·rcases List.mem_append.1 hb' with hb' | hb'
    ·exact List.mem_append_left _ (List.mem_cons_of_mem _ hb')
    ·exact List.mem_append_right _ (g8 b' hb')
   ·obtain ⟨m1,m2,m3⟩ := List.nodup_append.1 hnd
    obtain ⟨m4,m5⟩ := List.nodup_cons.1 m1
    obtain ⟨m6,m7⟩ := g9 m2
    refine ⟨List.nodup_append.2 ⟨m5,m6,fun x hx y hy => m3 x (List.mem_cons_of_mem _ hx) y (g8 y hy)⟩,fun b' hb' hm => ?_⟩
    rcases List.mem_cons.1 hb' with rfl | hb'
    ·rcases List.mem_append.1 hm with hm | hm
     ·exact m4 hm
     ·exact m3 _ (by simp) _ (g8 _ hm) rfl
    ·rcases List.mem_append.1 hm with hm | hm
     ·exact m3 _ (List.mem_cons_of_mem _ hm) _ (g7 _ hb') rfl
     ·exact m7 b' hb' hm
 | ios q z v xs ys ob1 qs os ns ob em hR hv ho hl t ih =>
   intro sti stB hn hs hb
   obtain ⟨hqns,hn2⟩ := List.nodup_cons.1 hn
   simp only [blanks] at hb
   obtain ⟨g1,g2,g3,g4,mb,fb,g5,g6,g7,g8,g9⟩ := ih hn2 (fun p hp => by
    have h1 : p ≠ q := fun e => hqns (e ▸ hp)
    simp only [St.setRoot,h1,if_false]
    exact hs p (List.mem_cons_of_mem _ hp)) hb
   have hq2 : stB.r q = some ⟨false,z,ys⟩ := by rw [g2 q hqns]; simp [St.setRoot]
   have hplace2 : ∀ b o n cap,v = .slice (some ⟨b,o,none⟩) n cap → cap ≠ 0 → E.ρ q = some (b,o) := by
    intro b o n cap hve h0
    rcases view_at hv hR with ⟨ad,h1⟩ | ⟨b2,o2,cap2,h1,h2⟩
    ·rw [h1] at hve; simp only [Value.slice.injEq] at hve; exact absurd hve.2.2.symm h0
    ·rw [h1] at hve
     simp only [Value.slice.injEq,Option.some.injEq,Addr.mk.injEq] at hve
     rw [h2,hve.1.1,← hve.1.2.1]; simp
   have hplace : ∀ b,ob1 = some b → ∃ o,E.ρ q = some (b,o) := by
    intro b e
    cases ho with
    | empty => cases e
    | mk b1 o cap z ys vs hc h0 hz hh hcl hrm => cases e; exact ⟨o,hplace2 _ _ _ _ rfl h0⟩
   have hroot : ∀ r'',RootOk φ ⟨K',E.ρ⟩ r'' w' q ⟨false,z,ys⟩ := fun r'' => by
    cases ho with
    | empty ad z =>
      cases hρ : E.ρ q with
      | none => exact .empty z hρ
      | some p =>
        obtain ⟨b,o⟩ := p
        refine .sl b o z [] [] hρ (fun x hx => by cases hx) .nil Cells.nil ?_
        cases h.roots q _ hR with
        | empty z h2 => rw [hρ] at h2; cases h2
        | sl b' o' z xs vs hρ' hz hh hcl hrm =>
          rw [hρ] at hρ'; cases hρ'
          exact room _ _ (hrm.le (by simp))
    | mk b1 o cap z ys vs hc h0 hz hh hcl hrm =>
      exact .sl b1 o z ys vs (hplace2 _ _ _ _ rfl h0) hz hh hcl (hrm.le (by have := Nat.mul_le_mul_right z hc; omega))
   refine ⟨g1,fun p hp => ?_,fun p R' hp hR' => ?_,fun q' hq' => ?_,ob1.toList ++ mb,fb,.ios q z ys ob1 _ _ _ _ g5,fun p R' hp hR' => ?_,fun b' hb' => ?_,fun b' hb' => List.mem_append_right _ (g8 b' hb'),fun hnd => ?_⟩
   ·simp only [List.mem_cons,not_or] at hp
    rw [g2 p hp.2]
    simp [St.setRoot,hp.1]
   ·rcases List.mem_cons.1 hp with rfl | hp
    ·rw [hq2] at hR'; cases hR'
     exact ⟨⟨_,hR,rfl,rfl,hl⟩,hroot⟩
    ·exact g3 p R' hp hR'
   ·rcases List.mem_cons.1 hq' with rfl | hq'
    ·simp
    ·exact List.mem_cons_of_mem _ (g4 q' hq')
   ·rcases List.mem_cons.1 hp with rfl | hp
    ·cases ob1 with
     | none => exact .inl (by simp)
     | some b =>
       refine .inr fun b' o' hρ' => ?_
       obtain ⟨o2,h2⟩ := hplace b rfl
       rw [h2] at hρ'; cases hρ'; simp
    ·rcases g6 p R' hp hR' with h1 | h1
     ·refine .inl ?_
      split
      ·exact List.mem_cons_of_mem _ h1
      ·exact h1
     ·exact .inr fun b' o' hρ' => List.mem_append_right _ (h1 b' o' hρ')
   ·rcases List.mem_append.1 hb' with hb' | hb'
    ·exact List.mem_append_left _ hb'
    ·exact List.mem_append_right _ (g7 b' hb')
   ·obtain ⟨m1,m2,m3⟩ := List.nodup_append.1 hnd
    obtain ⟨m6,m7⟩ := g9 m2
    refine ⟨m6,fun b' hb' hm => ?_⟩
    rcases List.mem_append.1 hb' with hb' | hb'
    ·exact m3 _ hb' _ (g8 _ hm) rfl
    ·exact m7 b' hb' hm
 | gone q z xs qs os ns ob em hR t ih =>
   intro sti stB hn hs hb
   obtain ⟨hqns,hn2⟩ := List.nodup_cons.1 hn
   simp only [blanks] at hb
   obtain ⟨g1,g2,g3,g4,mb,fb,g5,g6,g7,g8,g9⟩ := ih hn2 (fun p hp => by
    have h1 : p ≠ q := fun e => hqns (e ▸ hp)
    simp only [St.setRoot,h1,if_false]
    exact hs p (List.mem_cons_of_mem _ hp)) hb
   have hq2 : stB.r q = none := by rw [g2 q hqns]; simp [St.setRoot]
   refine ⟨g1,fun p hp => ?_,fun p R' hp hR' => ?_,fun q' hq' => ?_,mb,fb,.gone q _ _ _ _ g5,fun p R' hp hR' => ?_,g7,g8,g9⟩
   ·simp only [List.mem_cons,not_or] at hp
    rw [g2 p hp.2]
    simp [St.setRoot,hp.1]
   ·rcases List.mem_cons.1 hp with rfl | hp
    ·rw [hq2] at hR'; cases hR'
    ·exact g3 p R' hp hR'
   ·rcases List.mem_cons.1 hq' with rfl | hq'
    ·simp
    ·exact List.mem_cons_of_mem _ (g4 q' hq')
   ·rcases List.mem_cons.1 hp with rfl | hp
    ·rw [hq2] at hR'; cases hR'
    ·exact g6 p R' hp hR'
theorem LT.imp {ρ ρ' : Nat → Option (Nat × Nat)} {K' : Nat → Prop} : ∀ {qs : List Nat} {os : List A} {mb fb : List Nat},LT φ ρ w' K' r qs os mb fb → (∀ q ∈ qs,∀ z x,r q = some ⟨true,z,[x]⟩ → r' q = some ⟨true,z,[x]⟩ ∧ ρ' q = ρ q) →
 LT φ ρ' w' K' r' qs os mb fb := by
 intro qs os mb fb h
 induction h with
 | nil => intro _; exact .nil
 | iob q z b o y bs qs os mb fb hR hρ hB hq t ih =>
   intro hs
   have h1 := hs q (by simp) _ _ hR
   exact .iob q z b o y bs qs os mb fb h1.1 (h1.2.trans hρ) hB hq (ih fun q' hq' => hs q' (List.mem_cons_of_mem _ hq'))
 | ios q z ys ob qs os mb fb t ih =>
   intro hs
   exact .ios q z ys ob qs os mb fb (ih fun q' hq' => hs q' (List.mem_cons_of_mem _ hq'))
 | gone q qs os mb fb t ih =>
   intro hs
   exact .gone q qs os mb fb (ih fun q' hq' => hs q' (List.mem_cons_of_mem _ hq'))
theorem CellOk.setRoot {q c : Nat} {R : Option Root} {v : Value} {x : A} (h : CellOk φ E st.r w q c v x) : CellOk φ E (st.setRoot q R).r w q c v x := by
 cases h with
 | data _ h ha => exact .data _ _ h ha
 | any h => exact .any _ h
 | view off n hc h hv =>
   have hne : sub q c ≠ q := by
    intro e; simp only [sub] at e; omega
   exact .view _ _ _ hc (h.weakView fun R' hR => ⟨by simpa [St.setRoot,hne] using hR,rfl⟩) hv
theorem takeOuts_ok {K' : Nat → Prop} : ∀ {os : List A} {qs mb fb : List Nat} {E : Env} {st1 st2 : St},SimE φ w0 L E st1 ev w' → E.ok = K' → LT φ E.ρ w' K' st1.r qs os mb fb → fb.Nodup → (∀ b ∈ fb,Fresh w0 L E st1 ev w' b) → takeOuts st1 qs os = some st2 →
 ∃ E2,SimE φ w0 L E2 st2 ev w' ∧ E2.ok = K' ∧ ∀ b,b ∉ fb → Fresh w0 L E st1 ev w' b → Fresh w0 L E2 st2 ev w' b
 | [],qs,mb,fb,E,st1,st2,h,hK,hl,hn,hF,ht => by
   cases hl
   simp [takeOuts] at ht; subst ht
   exact ⟨E,h,hK,fun _ _ hf => hf⟩
 | x :: os,qs,mb,fb,E,st1,st2,h,hK,hl,hn,hF,ht => by
   cases hl with
   | ios q z ys ob qs _ mb _ t =>
     simp only [takeOuts] at ht
     exact takeOuts_ok h hK t hn hF ht
   | gone q qs _ mb fb t =>
     simp only [takeOuts] at ht
     exact takeOuts_ok h hK t hn hF ht
   | iob q z b o y bs qs _ mb fb hR hρ hB hq t =>
     simp only [takeOuts] at ht
     split at ht
     ·rename_i hlen
      obtain ⟨⟨cs,s⟩,hs,ht⟩ := Option.bind_eq_some_iff.1 ht
      obtain ⟨n1,n2,n3⟩ := List.nodup_append.1 hn
      cases hB with
      | mk _ _ _ _ vs _ hcr hcl hrm hz =>
        have hq1000 : q < 1000 := by cases h.roots q _ hR; assumption
        subst hK
        obtain ⟨E1,h1,hst,hok,hle,hall,hfr⟩ := h.takes hs hcr n1 (fun b' hb' => hF b' (List.mem_append_left _ hb')) (by omega) (fun c' a1 a2 p' R' hp hb x hx y' hy => by
         cases hr : refs1 (sub q c') y' with
         | false => rfl
         | true =>
           obtain ⟨c2,hc2,e2,hx2⟩ := h.cell_ref hp hb hx hy hr
           obtain ⟨e3,e4⟩ := sub_inj (by omega) hc2 e2
           subst e3; subst e4
           rw [hR] at hp; cases hp
           rw [List.mem_singleton] at hx; subst hx
           rw [blankAll_cells,List.getElem?_map,Option.map_eq_some_iff] at hx2
           obtain ⟨_,_,rfl⟩ := hx2
           cases hr)
        have hnS : ∀ p,p < 1000 → ¬ ∃ c',0 ≤ c' ∧ c' < 0 + y.cells.length ∧ p = sub q c' := fun p hp ⟨c',_,_,e⟩ => by have := sub_ge q c'; omega
        have hR1 := hst.b q _ (hnS q hq1000) hR rfl
        have hρ1 := (hst.ρ q (hnS q hq1000)).trans hρ
        have hlv := hcr.length
        have hna : ∀ y ∈ cs,∀ l,y ≠ .agg l := fun y' hy' => by
         obtain ⟨c,hc⟩ := List.mem_iff_getElem?.1 hy'
         have hcl' : c < vs.length := by
          rcases Nat.lt_or_ge c cs.length with h | h
          ·omega
          ·simp [List.getElem?_eq_none h] at hc
         exact (hall c vs[c] y' (by simp) hc).nagg
        have hrc : (reCell y cs).cells = cs := reCell_cells hle hna
        have h2 := h1.reroot (R' := ⟨true,z,[reCell y cs]⟩) hR1 hρ1 ⟨rfl,rfl,rfl⟩ (.box b o z _ vs hρ1 (by rw [hrc,hle,hz]) hq1000 (by rw [hrc,hle,hlv]) (fun c u y' hu hy' => by
         have := hall c u y' hu (by rw [hrc] at hy'; exact hy')
         rw [Nat.zero_add] at this
         exact this.setRoot) hcl hrm)
        have hfr2 : ∀ b',Fresh w0 L E1 s ev w' b' → Fresh w0 L E1 (s.setRoot q (some ⟨true,z,[reCell y cs]⟩)) ev w' b' := fun b' hf => ⟨hf.z,fun q' b2 o' a1 a2 => hf.r q' b2 o' (by
         by_cases e : q' = q
         ·subst e; rw [hR1]; rfl
         ·simpa [St.setRoot,e] using a1) a2,hf.t⟩
        obtain ⟨E2,h3,hok2,hfr3⟩ := takeOuts_ok h2 hok (t.imp fun q' hq' z' x' hr' => by
         have hne : q' ≠ q := fun e => hq (e ▸ hq')
         have hq'1000 : q' < 1000 := by cases h.roots q' _ hr'; assumption
         refine ⟨?_,hst.ρ q' (hnS q' hq'1000)⟩
         simp only [St.setRoot,hne,if_false]
         exact hst.b q' _ (hnS q' hq'1000) hr' rfl) n2 (fun b' hb' => hfr2 b' (hfr b' (fun hm => n3 b' hm b' hb' rfl) (hF b' (List.mem_append_right _ hb')))) ht
        exact ⟨E2,h3,hok2,fun b' hb' hf => hfr3 b' (fun hm => hb' (List.mem_append_right _ hm)) (hfr2 b' (hfr b' (fun hm => hb' (List.mem_append_left _ hm)) hf))⟩
     ·cases ht
end
end Go.Ab
namespace Go.Ab
section
variable {P : Program} {φ : Nat → Nat} {w0 : World} {L : Lent} {E E' : Env} {st st' : St} {ev ev' : Nat → Value} {w w' : World} {r r' : Nat → Option Root} {a : Act}
def evL (ev : Nat → Value) (vs : List Value) : Nat → Value := fun i => if gs ≤ i then (vs[i - gs]?).getD undef else ev i
theorem SimE.lay (h : SimE φ w0 L E st ev w) {vs : List Value} {xs : List A} (hv : All2 (fun v x => RV φ E st.r w v x ∧ ∀ k b,Tk v x k b → ∃ i,Tk (ev i) (st.t i) k b) vs xs) : SimE φ w0 L E (st.lay xs) (evL ev vs) w :=
 h.weak (fun _ _ h => h) (fun j => by
  simp only [St.lay,evL]
  split
  ·cases hx : xs[j - gs]? with
   | none => exact .one _ _ (.any _)
   | some x =>
     obtain ⟨v,hv',h1⟩ := hv.get hx
     rw [hv']
     exact h1.1
  ·exact h.slots j) (fun j k b ht => by
  simp only [St.lay,evL] at ht
  split at ht
  ·cases hx : xs[j - gs]? with
   | none => rw [hx] at ht; exact (noTk_any _ _ ht).elim
   | some x =>
     obtain ⟨v,hv',h1⟩ := hv.get hx
     rw [hx,hv'] at ht
     exact h1.2 k b ht
  ·exact ⟨j,ht⟩)
theorem SimE.unlay {vs : List Value} (h : SimE φ w0 L E st (evL ev vs) w) : SimE φ w0 L E (st.lay []) ev w :=
 h.weak (fun _ _ h => h) (fun j => by
  simp only [St.lay]
  split
  ·exact .one _ _ (.any _)
  ·rename_i hj
   have := h.slots j
   simpa [evL,hj] using this) (fun j k b ht => by
  simp only [St.lay] at ht
  split at ht
  ·exact (noTk_any _ _ ht).elim
  ·rename_i hj
   exact ⟨j,by simpa [evL,hj] using ht⟩)
theorem SimE.put'V (h : SimE φ w0 L E st ev w) {i : Nat} {x : A} (hv : RV φ E st.r w (ev i) x) (hn : ∀ k b,¬ Tk (ev i) x k b) : SimE φ w0 L E (st.put' i x) ev w :=
 h.weak (fun _ _ h => h) (fun j => by
  simp only [St.put']
  split
  ·rename_i e; rw [e]; exact hv
  ·exact h.slots j) (fun j k b ht => by
  simp only [St.put'] at ht
  split at ht
  ·rename_i e; rw [e] at ht; exact (hn k b ht).elim
  ·exact ⟨j,ht⟩)
theorem SimE.noRef3 (h : SimE φ w0 L E st ev w) (d : Nat) : ∀ p' R',st.r p' = some R' → R'.b = true → ∀ x ∈ R'.xs,∀ y ∈ x.cells,refs1 (own3 d) y = false := fun p' R' hp hb x hx y hy => by
 cases hr : refs1 (own3 d) y with
 | false => rfl
 | true =>
   obtain ⟨c,hc,e,_⟩ := h.cell_ref hp hb hx hy hr
   have hp' : p' < 1000 := by
    cases h.roots p' R' hp with
    | empty => cases hb
    | sl => cases hb
    | box b o z e vs hρ hz hlt => exact hlt
   simp only [own3,sub] at e; omega
theorem Lent.own3 {L : Lent} {d : Nat} : L.pl (Ab.own3 d) = none := by
 cases h : L.pl (Ab.own3 d) with
 | none => rfl
 | some p => have := L.lt _ _ h; simp only [Ab.own3] at this; omega
theorem SimE.own1 (h : SimE φ w0 L E st ev w) (j : Nat) : ∃ E',SimE φ w0 L E' (st.own1 j) ev w := by
 unfold St.own1
 have hs := h.slots (gs + j)
 split
 ·rename_i k z xs e
  rw [e] at hs
  obtain ⟨E1,h1,_,h2⟩ := h.rootTok (q := Ab.own3 j) hs.tok_inv (fun b ht => ⟨gs + j,by rw [e]; exact .one _ _ _ _ ht⟩) Lent.own3 (h.noRef3 j)
  exact ⟨E1,h1.put'V (.one _ _ h2) noTk_view⟩
 ·rename_i z e
  rw [e] at hs
  have e2 := hs.nils_inv
  have h1 := (h.kill (Ab.own3 j)).unroot (Ab.own3 j)
  have h2 := h1.root (p := none) (R := ⟨false,z,[]⟩) (by simp [St.setRoot]) (fun i => refs_kill _ _) (h1.noRef3 j) (fun _ _ e => by cases e) (fun p' e => by rw [Lent.own3] at e; cases e) (.empty z (by simp))
  rw [setRoot_twice] at h2
  exact ⟨_,h2.put'V (by rw [e2]; exact .one _ _ (.viewE none _ 0 ⟨false,z,[]⟩ (by simp [St.setRoot]) rfl (Nat.zero_le _))) noTk_view⟩
 ·exact ⟨E,h⟩
theorem SimE.pinAll : ∀ {n : Nat} {bs : List Bool} {j : Nat} {E : Env} {st st1 : St},SimE φ w0 L E st ev w → st.pinAll bs j n = some st1 → ∃ E',SimE φ w0 L E' st1 ev w
 | 0,bs,j,E,st,st1,h,hp => by
   have : st1 = st := by
    cases bs with
    | nil => simp [St.pinAll] at hp; exact hp.symm
    | cons b bs => cases b <;> (simp [St.pinAll] at hp; exact hp.symm)
   subst this; exact ⟨E,h⟩
 | n + 1,[],j,E,st,st1,h,hp => by
   simp only [St.pinAll] at hp
   obtain ⟨s,hs,hp⟩ := Option.bind_eq_some_iff.1 hp
   obtain ⟨E1,h1,_⟩ := h.pinN hs
   exact h1.pinAll hp
 | n + 1,true :: bs,j,E,st,st1,h,hp => by
   simp only [St.pinAll] at hp
   obtain ⟨E1,h1⟩ := h.own1 j
   exact h1.pinAll hp
 | n + 1,false :: bs,j,E,st,st1,h,hp => by
   simp only [St.pinAll] at hp
   obtain ⟨s,hs,hp⟩ := Option.bind_eq_some_iff.1 hp
   obtain ⟨E1,h1,_⟩ := h.pinN hs
   exact h1.pinAll hp
section
variable {o : Oper} {next : Act → World → Prop} {Q : Exit → Act → World → Prop} {cf : CF} {io : Nat → List Bool}
theorem rv1_noTk {v : Value} {x : A} (h : RV1 φ E r w v x) (hn : anyTok x = false) (k b : Nat) : ¬ Tk v x k b := by
 intro ht
 cases ht with
 | one _ _ _ _ ht => cases ht; cases hn
 | tup => cases h with | data _ _ h => cases h
 | agg us zs j k b v' a' hv1 ha1 hk =>
   generalize hu : Value.agg us.toArray = u at h
   cases h with
   | data _ _ h1 => subst hu; exact absurd (.agg us zs j k b v' a' hv1 ha1 hk) (Tk.of_rep h1)
theorem landR_cases {d : Option Nat} {rs : List A} (he : landR st d rs = some st') :
 (∃ z x i st3,rs = [.iob z [x]] ∧ d = some i ∧ takeVar st i z x = some st3 ∧ st' = st3.put (some i) (.loc i 0 0)) ∨ (rs.any isIob = false ∧ st' = st.put d (packR (d.getD 0) rs)) := by
 unfold landR at he
 split at he
 ·obtain ⟨st3,ht3,rfl⟩ := Option.map_eq_some_iff.1 he
  exact .inl ⟨_,_,_,st3,rfl,rfl,ht3,rfl⟩
 ·split at he
  ·cases he
  ·rename_i hio
   simp only [Option.some.injEq] at he
   exact .inr ⟨by simpa using hio,he.symm⟩
theorem w_call (h : Sim φ w0 L E st a w) (hcf : CfG P φ w0 L cf) {f : Operand} {args : Array Operand} {tys : Array TypeId} {f' : Opd} {args' : List Opd} (ho : o.op = .call ⟨.value f,args,tys⟩) (hf : chkOpd φ f f' = true)
 (ha : chkOpds φ args.toList args' = true) (hd : ∀ i,o.dst = some i → i < a.tmps.size) (hdl : ∀ i,o.dst = some i → L.pl i = none) (he : stepW cf io o.dst st (.call f' args') = some st')
 (hn : ∀ E' v w',Sim φ w0 L E' st' (a.put o.dst v) w' → next (a.put o.dst v) w') : o.wp P a w next Q := by
 have hfv := opd_ok h hf
 simp only [stepW] at he
 split at he
 ·rename_i g caps e1
  rw [e1] at hfv
  obtain ⟨cv,hev,hcaps,hcn⟩ := hfv.1.fn_inv'
  obtain ⟨st1,hp,he⟩ := Option.bind_eq_some_iff.1 he
  obtain ⟨⟨ls,qs,ns⟩,hl,he⟩ := Option.bind_eq_some_iff.1 he
  simp only at he
  split at he
  ·rename_i hnd
   have hnd : ns.Nodup := by simpa using hnd
   obtain ⟨as,has,he⟩ := Option.bind_eq_some_iff.1 he
   obtain ⟨⟨res,outs⟩,hres,he⟩ := Option.bind_eq_some_iff.1 he
   simp only at he
   obtain ⟨st2,hgb,he⟩ := Option.bind_eq_some_iff.1 he
   obtain ⟨stB,hbl,hto⟩ := Option.bind_eq_some_iff.1 hgb
   have hall : All2 (fun v x => RV φ E st.r w v x ∧ ∀ k b,Tk v x k b → ∃ i,Tk (a.eval (.tmp i)) (st.t i) k b) (args.toList.map a.eval ++ cv) (args'.map (Opd.v st) ++ caps) :=
    (opds_all2 h ha).append ⟨hcaps.1,fun j v x hv hx => ⟨.one _ _ (hcaps.2 j v x hv hx),fun k b ht => (rv1_noTk (hcaps.2 j v x hv hx) (hcn x (List.mem_of_getElem? hx)) k b ht).elim⟩⟩
   generalize hvals : args.toList.map a.eval ++ cv = vals at hall
   have hN : args'.length + caps.length = vals.length := by have := hall.1; simp at this; omega
   rw [hN] at hp hl has
   obtain ⟨E1,h1⟩ := (h.toSimE.lay hall).pinAll hp
   have hxs : All2 (RV φ E1 st1.r w) vals ((List.range vals.length).map fun j => st1.t (gs + j)) := by
    refine ⟨by simp,fun j v x hv hx => ?_⟩
    simp only [List.getElem?_map,Option.map_eq_some_iff] at hx
    obtain ⟨j',hj',rfl⟩ := hx
    have hjl : j < vals.length := by
     rcases Nat.lt_or_ge j vals.length with h' | h'
     ·exact h'
     ·simp [List.getElem?_eq_none h'] at hv
    rw [List.getElem?_range hjl] at hj'
    simp only [Option.some.injEq] at hj'; subst hj'
    have := h1.slots (gs + j)
    simp only [evL] at this
    rw [if_pos (by omega),show gs + j - gs = j from by omega,hv] at this
    exact this
   obtain ⟨bs,hargs,hnb,hlo⟩ := args_ok h1 hxs hl has
   obtain ⟨hent,hok⟩ := hcf.1 g as res outs hres
   unfold Oper.wp
   rw [run_call ho rfl hev hent,Oper.upon_enter]
   have hvs : (args.map a.eval ++ cv.toArray) = vals.toArray := by rw [← hvals]; apply Array.ext'; simp
   rw [hvs]
   have hbs : ∀ b ∈ bs,¬ E1.ok b ∧ Zone w0 L b ∧ b < w.heap.size := fun b hb => by
    obtain ⟨p,_,hlv,o',hρ⟩ := hnb.1 b hb
    exact h1.rz p b o' hlv hρ
   refine (hok w E1.ok vals bs hargs (hnb.2 hnd) (fun b hb => (hbs b hb).1) h1.okz (hcf.2.at h1 fun _ hb => hb)).mono fun e w' ⟨v,hev',hback⟩ => ?_
   subst hev'
   obtain ⟨rvs,K',rb,ob,rfl,hKK,hK',hrr,hout,hndb,hblk⟩ := hback.rest
   obtain ⟨em,hlo1,hem1,hem2⟩ := hlo hout
   have hU := h1.unlay
   obtain ⟨g1,g2,g3,_,mb,fb,g5,g6,g7,g8,g9⟩ := blanks_ok h1 hback.room hlo1 (sti := st1.lay []) hnd (fun _ _ => rfl) hbl
   have hBt : stB = { st1.lay [] with r := stB.r } := by cases stB; simp only at g1; subst g1; rfl
   have W : Wm w0 L E1 ⟨K',E1.ρ⟩ (st1.lay []).r stB.r w w' (· ∈ bs) := {
    same := fun b hb hn => hback.frame b hb hn
    size := hback.grow,env := hback.env,fr := hback.fr,room := hback.room,ρ := rfl,ok := hKK
    new := fun b hb => by
     rcases hK' b hb with h1 | h1 | h1
     ·exact .inl h1
     ·exact .inr (.inl ⟨h1,Nat.lt_of_lt_of_le (hbs b h1).2.2 hback.grow⟩)
     ·exact .inr (.inr h1)
    nok := fun b hb => (hbs b hb).1
    zone := fun b hb => (hbs b hb).2.1
    sh := fun q R' hq => by
     by_cases hm : q ∈ ns
     ·exact (g3 q R' hm hq).1
     ·rw [g2 q hm] at hq; exact ⟨R',hq,rfl,rfl,rfl⟩ }
   have htkb : ∀ i k b,Tk (a.eval (.tmp i)) ((st1.lay []).t i) k b → b ∉ bs := fun i k b ht hb => by
    obtain ⟨p,_,hlv,o',hρ⟩ := hnb.1 b hb
    exact (hU.tz i k b ht).2 p b o' hlv hρ rfl
   have hB : SimE φ w0 L ⟨K',E1.ρ⟩ stB (fun i => a.eval (.tmp i)) w' := by
    rw [hBt]
    refine hU.back W htkb (fun q b o' hlv hρ hb hk => ?_) fun q R' hq => ?_
    ·obtain ⟨R',hR'⟩ := Option.isSome_iff_exists.1 hlv
     by_cases hm : q ∈ ns
     ·rcases g6 q R' hm hR' with h5 | h5
      ·exact hem2 hnd q h5 b o' hρ hb
      ·exact (hblk b (List.mem_append_right _ (g7 b (h5 b o' hρ)))).1 hk
     ·rw [g2 q hm] at hR'
      obtain ⟨p,hp',hlv2,o2,hρ2⟩ := hnb.1 b hb
      exact h1.inj q p b o' b o2 (by rw [show st1.r q = some R' from hR']; rfl) hlv2 hρ hρ2 (fun e => hm (e ▸ hp')) rfl
    by_cases hm : q ∈ ns
    ·exact .inr ((g3 q R' hm hq).2 _)
    ·rw [g2 q hm] at hq
     refine .inl ⟨hq,fun b o' hρ hb => ?_⟩
     obtain ⟨p,hp',hlv,o2,hρ2⟩ := hnb.1 b hb
     exact h1.inj q p b o' b o2 (by rw [show st1.r q = some R' from hq]; rfl) hlv hρ hρ2 (fun e => hm (e ▸ hp')) rfl
   obtain ⟨n1,n2,n3⟩ := List.nodup_append.1 hndb
   obtain ⟨n4,n5⟩ := g9 n2
   have hfresh : ∀ b,b ∈ rb ++ ob → (b ∈ rb ∨ b ∈ fb) → Fresh w0 L ⟨K',E1.ρ⟩ stB (fun i => a.eval (.tmp i)) w' b := by
    intro b hb hb2
    obtain ⟨k1,k2,k3⟩ := hblk b hb
    refine ⟨⟨k1,?_,k2⟩,fun q b' o' hlv hρ e => ?_,fun i k b' ht e => ?_⟩
    ·rcases k3 with k3 | k3
     ·exact (hbs b k3).2.1
     ·exact .inl (Nat.le_trans h.grow k3)
    ·subst e
     obtain ⟨R',hR'⟩ := Option.isSome_iff_exists.1 hlv
     by_cases hm : q ∈ ns
     ·obtain ⟨R,hR,_⟩ := (g3 q R' hm hR').1
      have hql : (st1.r q).isSome = true := by rw [hR]; rfl
      rcases g6 q R' hm hR' with h5 | h5
      ·have := hem2 hnd q h5 b' o' hρ
       rcases k3 with k3 | k3
       ·exact this k3
       ·have := (h1.rz q b' o' hql hρ).2.2; omega
      ·have hmb := h5 b' o' hρ
       rcases hb2 with hb2 | hb2
       ·exact n3 _ hb2 _ (g7 _ hmb) rfl
       ·exact n5 _ hmb hb2
     ·have hq1 : st1.r q = some R' := by have := g2 q hm; rw [hR'] at this; exact this.symm
      have hql : (st1.r q).isSome = true := by rw [hq1]; rfl
      rcases k3 with k3 | k3
      ·obtain ⟨p,hp',hlv',o2,hρ2⟩ := hnb.1 b' k3
       exact h1.inj q p b' o' b' o2 hql hlv' hρ hρ2 (fun e => hm (e ▸ hp')) rfl
      ·have := (h1.rz q b' o' hql hρ).2.2; omega
    ·subst e
     have ht2 : Tk (a.eval (.tmp i)) ((st1.lay []).t i) k b' := by rw [← g1]; exact ht
     rcases k3 with k3 | k3
     ·exact htkb i k b' ht2 k3
     ·have := (hU.tz i k b' ht2).1.2.2; omega
   obtain ⟨E2,h2,hok2,hfr2⟩ := takeOuts_ok (K' := K') hB rfl g5 n4 (fun b hb => hfresh b (List.mem_append_right _ (g8 b hb)) (.inr hb)) hto
   have hfrb : ∀ b ∈ rb,Fresh w0 L E2 st2 (fun i => a.eval (.tmp i)) w' b := fun b hb => hfr2 b (fun hm => n3 b hb b (g8 b hm) rfl) (hfresh b (List.mem_append_left _ hb) (.inl hb))
   have hS2 : Sim φ w0 L E2 st2 a w' := ⟨h2,h.nodef⟩
   rw [← hok2] at hrr
   rcases landR_cases he with ⟨z,x,d,st3,hr1,hd1,ht3,hst⟩ | ⟨hio,hst⟩
   ·subst hr1; subst hst
    cases hrr with
    | cons v0 _ b0 vs0 _ bs0 hr0 ht0 =>
      cases ht0
      cases hr0 with
      | data _ hh => cases hh
      | iob _ _ _ hbox =>
        obtain ⟨E3,h3,_,hrv,_⟩ := h2.takeVar ht3 hbox (by simpa using n1) (fun b hb => hfrb b (by simpa using hb)) (fun p' e => by rw [hdl d hd1] at e; cases e)
        rw [hd1] at hn ⊢
        have hS3 : Sim φ w0 L E3 st3 a w' := ⟨h3,h.nodef⟩
        exact hn E3 _ w' (hS3.put (hd d hd1) (.one _ _ hrv) ((Copy.scalar noTk_loc).tok hS3))
   ·subst hst
    have hlr := land_rv (w0 := w0) (L := L) (st := st2) (a := a) (E' := E2) hrr n1 (fun b hb => ⟨(hfrb b hb).z,(hfrb b hb).r⟩) (fun b hb => (hfrb b hb).t) hio (fun _ _ _ hh => hh) (o.dst.getD 0)
    exact hn E2 _ w' (hS2.put' hd hlr.1 hlr.2)
  ·cases he
 ·cases he
theorem stepW_sound (hcf : CfG P φ w0 L cf) (h : Sim φ w0 L E st a w) {x : O} (hc : chkO P φ o.op x = true) (hd : ∀ i,o.dst = some i → i < a.tmps.size) (hdl : ∀ i,o.dst = some i → L.pl i = none) (he : stepW cf io o.dst st x = some st')
 (hn : ∀ E' v w',Sim φ w0 L E' st' (a.put o.dst v) w' → next (a.put o.dst v) w') : o.wp P a w next Q := by
 generalize hop : o.op = op at hc
 unfold chkO at hc
 split at hc <;> (try (cases hc; done)) <;> (try simp only [Bool.and_eq_true] at hc) <;> first
  | exact w_asg h hop hc hd hdl he hn
  | exact w_alloc h hop hc hd hdl he hn
  | exact w_box h hop hc hd hdl he hn
  | exact w_sto h hop hc.1.1 hc.1.2 hc.2 hd he hn
  | exact w_ia h hop hc.1.1 hc.1.2 hc.2 hd he hn
  | exact w_call h hcf hop hc.1 hc.2 hd hdl he hn
  | (simp only [stepW] at he; cases he; done)
  | skip
 ·obtain ⟨⟨hnm,hz⟩,hp⟩ := hc
  simp only [beq_iff_eq] at hnm; subst hnm
  split at hz
  ·rename_i e ht
   exact w_bsl h hop ht hz hp hd he hn
  ·cases hz
 ·rename_i b args tys x'
  unfold chkBuiltin at hc
  split at hc <;> (try (cases hc; done)) <;> (try simp only [Bool.and_eq_true] at hc) <;> first
   | (simp only [stepW] at he; cases he; done)
   | skip
  rename_i hargs htys
  obtain ⟨⟨h1,h2⟩,h3⟩ := hc
  split at h3
  ·rename_i e e2 ht hu
   split at h3
   ·rename_i i hi
    simp only [Bool.and_eq_true,beq_iff_eq] at h3
    obtain ⟨⟨h4,h5⟩,h6⟩ := h3
    split at h6
    ·rename_i zv hzv
     simp only [beq_iff_eq] at h6
     rw [list2 hargs,list2 htys] at hop
     exact w_app h hop h1 h2 ht hu hi h4 h5 hzv h6 hd he hn
    ·cases h6
   ·cases h3
  ·cases h3
end
end
end Go.Ab
namespace Go.Ab
def Fix (q : Option Nat) (v : A) : Prop := (pure v = true ∨ v = .any) ∨ ∃ p i c,q = some p ∧ (v = .loc p i c ∨ v = .view p i c)
structure Var (q : Option Nat) (d : Option Nat) (st : St) : Prop where
 lt : ∀ p,q = some p → p < 1000
 ne : ∀ p,q = some p → d ≠ some p
 b : ∀ p,q = some p → ∃ R,st.r p = some R ∧ R.b = true
theorem pureC_rootOf {a : A} (h : pureC a = true) (r : Nat) : refs1 r a = false := by cases a <;> first | rfl | simp [pureC] at h
theorem pureC_isTok {a : A} (h : pureC a = true) (k : Nat) : isTok1 k a = false := by cases a <;> first | rfl | simp [pureC] at h
theorem map_fix {f : A → A} {cs : List A} (h : ∀ c ∈ cs,f c = c) : cs.map f = cs := by
 induction cs with
 | nil => rfl
 | cons c cs ih => rw [List.map_cons,h c (by simp),ih fun x hx => h x (by simp [hx])]
theorem comps_pure {f : A → A} (hf : ∀ a,pureC a = true → f a = a) {v : A} (h : pure v = true) : comps f v = v := by
 cases v <;> first
  | (simp only [pure] at h; exact hf _ h)
  | (simp [pure,pureC] at h; done)
  | skip
 ·rename_i cs
  simp only [pure,List.all_eq_true] at h
  simp only [comps,map_fix fun c hc => hf c (h c hc)]
 ·rename_i g caps
  simp only [pure,pureC,List.isEmpty_iff] at h
  subst h; rfl
theorem kill1_pure (r : Nat) (a : A) (h : pureC a = true) : kill1 r a = a := by simp [kill1,pureC_rootOf h]
theorem killTok1_pure (k : Nat) (a : A) (h : pureC a = true) : killTok1 k a = a := by simp [killTok1,pureC_isTok h]
theorem unTok1_pure (k : Nat) (a : A) (h : pureC a = true) : unTok1 k a = a := by cases a <;> first | rfl | simp [pureC] at h
theorem unRoot1_pure (r : Nat) (R : Root) (a : A) (h : pureC a = true) : unRoot1 r R a = a := by cases a <;> first | rfl | simp [pureC] at h
section
variable {q d : Option Nat} {st : St} {v : A} {s : Nat}
theorem Fix.kill (h : Fix q v) {r : Nat} (hr : ∀ p,q = some p → r ≠ p) : comps (kill1 r) v = v := by
 rcases h with (h | rfl) | ⟨p,i,c,hq,rfl | rfl⟩
 ·exact comps_pure (kill1_pure r) h
 ·rfl
 ·have := hr p hq
  have e : refs1 r (.loc p i c) = false := by simp only [refs1,beq_eq_false_iff_ne]; exact fun e => this e.symm
  simp [comps,kill1,e]
 ·have := hr p hq
  have e : refs1 r (.view p i c) = false := by simp only [refs1,beq_eq_false_iff_ne]; exact fun e => this e.symm
  simp [comps,kill1,e]
theorem Fix.killTok (h : Fix q v) (k : Nat) : comps (killTok1 k) v = v := by
 rcases h with (h | rfl) | ⟨p,i,c,hq,rfl | rfl⟩
 ·exact comps_pure (killTok1_pure k) h
 ·rfl
 ·rfl
 ·rfl
theorem Fix.unTok (h : Fix q v) (k : Nat) : Ab.unTok k v = v := by
 rcases h with (h | rfl) | ⟨p,i,c,hq,rfl | rfl⟩
 ·exact comps_pure (unTok1_pure k) h
 ·rfl
 ·rfl
 ·rfl
theorem Fix.unRoot (h : Fix q v) {r : Nat} (R : Root) (hr : ∀ p,q = some p → r ≠ p) : Ab.unRoot r R v = v := by
 rcases h with (h | rfl) | ⟨p,i,c,hq,rfl | rfl⟩
 ·exact comps_pure (unRoot1_pure r R) h
 ·rfl
 ·have := hr p hq
  simp only [Ab.unRoot,comps,unRoot1]
  rw [if_neg (fun e => this e.symm)]
 ·have := hr p hq
  simp only [Ab.unRoot,comps,unRoot1]
  rw [if_neg (fun e => this e.symm)]
theorem map_put {f : A → A} (h : f v = v) : (st.put' s v).map f = (st.map f).put' s v := by
 simp only [St.map,St.put']
 congr 1
 funext i
 split <;> simp_all
theorem setRoot_put (r : Nat) (R : Option Root) : (st.put' s v).setRoot r R = (st.setRoot r R).put' s v := rfl
theorem put'_r : (st.put' s v).r = st.r := rfl
theorem put'_ne {i : Nat} (h : i ≠ s) : (st.put' s v).t i = st.t i := by simp [St.put',h]
theorem put'_put' {i : Nat} (u : A) (h : i ≠ s) : (st.put' s v).put' i u = (st.put' i u).put' s v := by
 simp only [St.put']
 congr 1
 funext j
 by_cases h1 : j = i
 ·by_cases h2 : j = s
  ·omega
  ·subst h1; simp [h2]
 ·by_cases h2 : j = s
  ·subst h2; simp [h1]
  ·simp [h1,h2]
theorem put_put' {d : Option Nat} (u : A) (h : d ≠ some s) : (st.put' s v).put d u = (st.put d u).put' s v := by
 cases d with
 | none => rfl
 | some i => exact put'_put' u fun e => h (by rw [e])
theorem put'_self (st : St) (s : Nat) : st.put' s (st.t s) = st := by
 cases st
 simp only [St.put',St.mk.injEq,and_true]
 funext i
 split <;> simp_all
structure Eqv (q : Option Nat) (s : Nat) (v : A) (st : St) (F : St → Option St) : Prop where
 put : F (st.put' s v) = (F st).map (·.put' s v)
 keep : ∀ st',F st = some st' → ∀ p,q = some p → st'.r p = st.r p
theorem Var.of_keep {st' : St} (h : Var q d st) (hk : ∀ p,q = some p → st'.r p = st.r p) : Var q d st' :=
 ⟨h.lt,h.ne,fun p hp => by rw [hk p hp]; exact h.b p hp⟩
theorem pin1_eqv (hv : Fix q v) (hV : Var q d st) {i : Nat} (hi : i ≠ s) (j : Nat) : Eqv q s v st (·.pin1 i j) := by
 constructor
 ·show (st.put' s v).pin1 i j = (st.pin1 i j).map (·.put' s v)
  simp only [St.pin1,put'_ne hi,put'_r]
  split
  ·simp only [Option.map_some]; rw [map_put (hv.unTok _)]
  ·rename_i r off n hc
   cases hr : st.r r with
   | none => rfl
   | some R =>
     simp only [Option.bind_some]
     cases hb : R.b
     ·simp only [Bool.false_eq_true,if_false,Option.map_some]
      rw [map_put (hv.unRoot R fun p hp e => by
       obtain ⟨R',h1,h2⟩ := hV.b p hp
       rw [← e,hr] at h1; cases h1; rw [hb] at h2; cases h2),setRoot_put]
     ·rfl
  ·rfl
 ·intro st' h p hp
  simp only [St.pin1] at h
  split at h
  ·cases h; rfl
  ·rename_i r off n hc
   obtain ⟨R,hr,h⟩ := Option.bind_eq_some_iff.1 h
   split at h
   ·cases h
   ·rename_i hb
    cases h
    have : p ≠ r := fun e => by
     obtain ⟨R',h1,h2⟩ := hV.b p hp
     rw [e,hr] at h1; cases h1; exact hb h2
    simp [St.setRoot,St.map,this]
  ·cases h; rfl
theorem bind_eqv {F G : St → Option St} (hF : Eqv q s v st F) (hG : ∀ st',F st = some st' → Eqv q s v st' G) : Eqv q s v st (fun x => (F x).bind G) := by
 constructor
 ·show (F (st.put' s v)).bind G = ((F st).bind G).map (·.put' s v)
  rw [hF.put]
  cases h : F st with
  | none => rfl
  | some st' => simp only [Option.map_some,Option.bind_some]; exact (hG st' h).put
 ·intro st' h p hp
  obtain ⟨s1,h1,h2⟩ := Option.bind_eq_some_iff.1 h
  rw [(hG s1 h1).keep _ h2 p hp,hF.keep _ h1 p hp]
theorem pinN_eqv (hv : Fix q v) (hV : Var q d st) {i : Nat} (hi : i ≠ s) : ∀ n : Nat,Eqv q s v st (·.pinN i n)
 | 0 => ⟨rfl,fun st' h p hp => by cases h; rfl⟩
 | n + 1 => bind_eqv (pinN_eqv hv hV hi n) fun st' h => pin1_eqv hv (hV.of_keep ((pinN_eqv hv hV hi n).keep st' h)) hi n
theorem own1_eqv (hv : Fix q v) (hV : Var q d st) (hs : s < gs) (j : Nat) : (st.put' s v).own1 j = (st.own1 j).put' s v ∧ ∀ p,q = some p → (st.own1 j).r p = st.r p := by
 have hne : gs + j ≠ s := by omega
 have hk : ∀ p,q = some p → own3 j ≠ p := fun p hp e => by have := hV.lt p hp; simp only [own3] at e; omega
 unfold St.own1
 rw [put'_ne hne]
 split
 ·refine ⟨?_,fun p hp => ?_⟩
  ·rw [St.killTok,St.killTok,map_put (hv.killTok _),St.kill,St.kill,map_put (hv.kill hk),setRoot_put,put'_put' _ hne]
  ·have := Ne.symm (hk p hp)
   simp [St.put',St.setRoot,St.kill,St.killTok,St.map,this]
 ·refine ⟨?_,fun p hp => ?_⟩
  ·rw [St.kill,St.kill,map_put (hv.kill hk),setRoot_put,put'_put' _ hne]
  ·have := Ne.symm (hk p hp)
   simp [St.put',St.setRoot,St.kill,St.map,this]
 ·exact ⟨rfl,fun _ _ => rfl⟩
theorem pinAll_eqv (hv : Fix q v) (hs : s < gs) : ∀ (n : Nat) (bs : List Bool) (j : Nat) {st : St},Var q d st → Eqv q s v st (fun x => St.pinAll x bs j n)
 | 0,bs,j,st,hV => by
   have e : ∀ x : St,St.pinAll x bs j 0 = some x := fun x => by cases bs with
    | nil => rfl
    | cons b bs => cases b <;> rfl
   exact ⟨by simp only [e]; rfl,fun st' h p hp => by rw [e] at h; cases h; rfl⟩
 | n + 1,bs,j,st,hV => by
   have hne : gs + j ≠ s := by omega
   have key : Eqv q s v st (fun x => (x.pinN (gs + j) (x.t (gs + j)).cells.length).bind fun st1 => St.pinAll st1 bs.tail (j + 1) n) := by
    have h0 : Eqv q s v st (fun x => x.pinN (gs + j) (x.t (gs + j)).cells.length) :=
     ⟨by
       show (st.put' s v).pinN (gs + j) ((st.put' s v).t (gs + j)).cells.length = _
       rw [put'_ne hne]; exact (pinN_eqv hv hV hne _).put,fun st' h => (pinN_eqv hv hV hne _).keep st' h⟩
    exact bind_eqv h0 fun st' h => pinAll_eqv hv hs n bs.tail (j + 1) (hV.of_keep (h0.keep st' h))
   cases bs with
   | nil => exact key
   | cons b bs =>
     cases b with
     | false => exact key
     | true =>
       obtain ⟨h1,h2⟩ := own1_eqv hv hV hs j
       have h3 := pinAll_eqv hv hs n bs (j + 1) (hV.of_keep h2)
       constructor
       ·show St.pinAll ((st.put' s v).own1 j) bs (j + 1) n = _
        rw [h1]; exact h3.put
       ·intro st' h p hp
        exact (h3.keep st' h p hp).trans (h2 p hp)
end
section
variable {q d : Option Nat} {st : St} {v : A} {s : Nat}
structure Shr (st st' : St) : Prop where
 r : ∀ i,st'.r i = st.r i ∨ st'.r i = none ∨ (1002000 ≤ i ∧ ∃ z xs,st'.r i = some ⟨false,z,xs⟩)
 loc : ∀ i p j c,st'.t i = .loc p j c → st.t i = .loc p j c
 view : ∀ i p o n,st'.t i = .view p o n → st.t i = .view p o n ∨ 1002000 ≤ p
theorem Shr.refl (st : St) : Shr st st := ⟨fun _ => .inl rfl,fun _ _ _ _ h => h,fun _ _ _ _ h => .inl h⟩
theorem Shr.trans {a b c : St} (h : Shr a b) (h' : Shr b c) : Shr a c :=
 ⟨fun i => by
   rcases h'.r i with e | e | e
   ·rcases h.r i with e2 | e2 | ⟨e2,z,xs,e3⟩
    ·exact .inl (e.trans e2)
    ·exact .inr (.inl (e.trans e2))
    ·exact .inr (.inr ⟨e2,z,xs,e.trans e3⟩)
   ·exact .inr (.inl e)
   ·exact .inr (.inr e),fun i p j k e => h.loc i p j k (h'.loc i p j k e),fun i p j k e => by
   rcases h'.view i p j k e with e | e
   ·exact h.view i p j k e
   ·exact .inr e⟩
theorem kill_loc {k : Nat} {a : A} {p j c : Nat} (h : comps (kill1 k) a = .loc p j c) : a = .loc p j c := by
 cases a <;> simp only [comps,kill1] at h <;> first | exact h | (split at h <;> first | exact h | cases h) | cases h
theorem kill_view {k : Nat} {a : A} {p j c : Nat} (h : comps (kill1 k) a = .view p j c) : a = .view p j c := by
 cases a <;> simp only [comps,kill1] at h <;> first | exact h | (split at h <;> first | exact h | cases h) | cases h
theorem killTok_loc {k : Nat} {a : A} {p j c : Nat} (h : comps (killTok1 k) a = .loc p j c) : a = .loc p j c := by
 cases a <;> simp only [comps,killTok1] at h <;> first | exact h | (split at h <;> first | exact h | cases h) | cases h
theorem killTok_view {k : Nat} {a : A} {p j c : Nat} (h : comps (killTok1 k) a = .view p j c) : a = .view p j c := by
 cases a <;> simp only [comps,killTok1] at h <;> first | exact h | (split at h <;> first | exact h | cases h) | cases h
theorem own1_shr (st : St) (j : Nat) : Shr st (st.own1 j) := by
 unfold St.own1
 split
 ·refine ⟨fun i => ?_,fun i p k c h => ?_,fun i p o n h => ?_⟩
  ·simp only [St.put',St.setRoot,St.kill,St.killTok,St.map]
   split
   ·rename_i e; exact .inr (.inr ⟨by rw [e]; simp only [own3]; omega,_,_,rfl⟩)
   ·exact .inl rfl
  ·simp only [St.put',St.setRoot,St.kill,St.killTok,St.map] at h
   split at h
   ·cases h
   ·exact killTok_loc (kill_loc h)
  ·simp only [St.put',St.setRoot,St.kill,St.killTok,St.map] at h
   split at h
   ·cases h; exact .inr (by simp only [own3]; omega)
   ·exact .inl (killTok_view (kill_view h))
 ·refine ⟨fun i => ?_,fun i p k c h => ?_,fun i p o n h => ?_⟩
  ·simp only [St.put',St.setRoot,St.kill,St.map]
   split
   ·rename_i e; exact .inr (.inr ⟨by rw [e]; simp only [own3]; omega,_,_,rfl⟩)
   ·exact .inl rfl
  ·simp only [St.put',St.setRoot,St.kill,St.map] at h
   split at h
   ·cases h
   ·exact kill_loc h
  ·simp only [St.put',St.setRoot,St.kill,St.map] at h
   split at h
   ·cases h; exact .inr (by simp only [own3]; omega)
   ·exact .inl (kill_view h)
 ·exact .refl _
theorem unTok_loc {k : Nat} {a : A} {p j c : Nat} (h : unTok k a = .loc p j c) : a = .loc p j c := by
 cases a <;> simp only [unTok,comps,unTok1] at h <;> first | exact h | (split at h <;> cases h) | cases h
theorem unTok_view {k : Nat} {a : A} {p j c : Nat} (h : unTok k a = .view p j c) : a = .view p j c := by
 cases a <;> simp only [unTok,comps,unTok1] at h <;> first | exact h | (split at h <;> cases h) | cases h
theorem unRoot_loc {k : Nat} {R : Root} {a : A} {p j c : Nat} (h : unRoot k R a = .loc p j c) : a = .loc p j c := by
 cases a <;> simp only [unRoot,comps,unRoot1] at h <;> first | exact h | (split at h <;> first | exact h | cases h) | cases h
theorem unRoot_view {k : Nat} {R : Root} {a : A} {p j c : Nat} (h : unRoot k R a = .view p j c) : a = .view p j c := by
 cases a <;> simp only [unRoot,comps,unRoot1] at h <;> first | exact h | (split at h <;> first | exact h | cases h) | cases h
theorem pin1_shr {i j : Nat} {st' : St} (h : st.pin1 i j = some st') : Shr st st' := by
 simp only [St.pin1] at h
 split at h
 ·cases h
  exact ⟨fun _ => .inl rfl,fun _ _ _ _ h => unTok_loc h,fun _ _ _ _ h => .inl (unTok_view h)⟩
 ·obtain ⟨R,hr,h⟩ := Option.bind_eq_some_iff.1 h
  split at h
  ·cases h
  ·cases h
   refine ⟨fun i => ?_,fun _ _ _ _ h => unRoot_loc h,fun _ _ _ _ h => .inl (unRoot_view h)⟩
   simp only [St.setRoot,St.map]
   split
   ·exact .inr (.inl rfl)
   ·exact .inl rfl
 ·cases h; exact .refl _
theorem pinN_shr {i : Nat} : ∀ {n : Nat} {st' : St},st.pinN i n = some st' → Shr st st'
 | 0,st',h => by cases h; exact .refl _
 | n + 1,st',h => by
   obtain ⟨s1,h1,h2⟩ := Option.bind_eq_some_iff.1 h
   exact (pinN_shr h1).trans (pin1_shr h2)
theorem pinAll_shr : ∀ {n : Nat} {bs : List Bool} {j : Nat} {st st' : St},St.pinAll st bs j n = some st' → Shr st st'
 | 0,bs,j,st,st',h => by
   cases bs with
   | nil => cases h; exact .refl _
   | cons b bs => cases b <;> (cases h; exact .refl _)
 | n + 1,bs,j,st,st',h => by
   have key : ∀ l : List Bool,((st.pinN (gs + j) (st.t (gs + j)).cells.length).bind fun st1 => St.pinAll st1 l (j + 1) n) = some st' → Shr st st' := fun l h => by
    obtain ⟨s1,h1,h2⟩ := Option.bind_eq_some_iff.1 h
    exact (pinN_shr h1).trans (pinAll_shr h2)
   cases bs with
   | nil => exact key _ h
   | cons b bs =>
     cases b with
     | false => exact key _ h
     | true => exact (own1_shr st j).trans (pinAll_shr (n := n) (bs := bs) h)
theorem take1_eqv (hv : Fix q v) {qq c : Nat} (hq : ∀ p,q = some p → p < 1000) (a : A) : (take1 qq c (st.put' s v) a) = (take1 qq c st a).map (fun x => (x.1,x.2.put' s v)) ∧ ∀ x st',take1 qq c st a = some (x,st') → ∀ p,q = some p → st'.r p = st.r p := by
 unfold take1
 have hsub : ∀ p,q = some p → sub qq c ≠ p := fun p hp e => by have := hq p hp; unfold sub at e; omega
 split
 ·split
  ·refine ⟨?_,fun x st' h p hp => ?_⟩
   ·simp only [Option.map_some,St.kill]; rw [map_put (hv.kill hsub),setRoot_put]
   ·cases h
    have := hsub p hp
    simp [St.setRoot,St.kill,St.map,Ne.symm this]
  ·exact ⟨rfl,fun x st' h => by cases h⟩
 ·split
  ·exact ⟨rfl,fun x st' h p hp => by cases h; rfl⟩
  ·exact ⟨rfl,fun x st' h => by cases h⟩
theorem takes_eqv (hv : Fix q v) {qq : Nat} (hq : ∀ p,q = some p → p < 1000) : ∀ (l : List A) (c : Nat) (st : St),(takes qq c (st.put' s v) l) = (takes qq c st l).map (fun x => (x.1,x.2.put' s v)) ∧ ∀ x st',takes qq c st l = some (x,st') → ∀ p,q = some p → st'.r p = st.r p
 | [],c,st => ⟨rfl,fun x st' h p hp => by cases h; rfl⟩
 | a :: l,c,st => by
   have h1 := take1_eqv (st := st) (s := s) hv (qq := qq) (c := c) hq a
   refine ⟨?_,fun x st' h p hp => ?_⟩
   ·simp only [takes,h1.1]
    cases h : take1 qq c st a with
    | none => rfl
    | some y =>
      obtain ⟨y,s1⟩ := y
      have h2 := takes_eqv hv (qq := qq) hq l (c + 1) s1
      simp only [Option.map_some,Option.bind_some,h2.1]
      cases takes qq (c + 1) s1 l <;> rfl
   ·simp only [takes] at h
    obtain ⟨⟨y,s1⟩,e1,h⟩ := Option.bind_eq_some_iff.1 h
    obtain ⟨⟨ys,s2⟩,e2,h⟩ := Option.map_eq_some_iff.1 h
    cases h
    rw [(takes_eqv hv (qq := qq) hq l (c + 1) s1).2 _ _ e2 p hp,h1.2 _ _ e1 p hp]
theorem takeVar_eqv (hv : Fix q v) {z : Nat} {x : A} {qq : Nat} (hq : ∀ p,q = some p → p < 1000 ∧ qq ≠ p) : Eqv q s v st (fun st => takeVar st qq z x) := by
 have hk : ∀ p,q = some p → qq ≠ p := fun p hp => (hq p hp).2
 constructor
 ·show takeVar (st.put' s v) qq z x = (takeVar st qq z x).map _
  unfold takeVar
  split
  ·have h2 := takes_eqv (s := s) hv (qq := qq) (fun p hp => (hq p hp).1) x.cells 0 ((st.kill qq).setRoot qq none)
   simp only [St.kill] at h2 ⊢
   rw [map_put (hv.kill hk),setRoot_put,h2.1]
   cases takes qq 0 ((st.map (comps (kill1 qq))).setRoot qq none) x.cells with
   | none => rfl
   | some y => simp only [Option.map_some]; rw [map_put (hv.kill hk),setRoot_put]
  ·rfl
 ·intro st' h p hp
  simp only [takeVar] at h
  split at h
  ·obtain ⟨⟨y,s1⟩,e1,h⟩ := Option.map_eq_some_iff.1 h
   cases h
   have := (takes_eqv (s := s) hv (qq := qq) (fun p hp => (hq p hp).1) x.cells 0 ((st.kill qq).setRoot qq none)).2 _ _ e1 p hp
   have hne := Ne.symm (hk p hp)
   simp only [St.setRoot,St.kill,St.map,if_neg hne] at this ⊢
   exact this
  ·cases h
def Off (q : Option Nat) (r : Nat → Option Root) (qs : List Nat) : Prop := ∀ p,q = some p → ∀ i ∈ qs,i ≠ p ∧ ∀ R x,r i = some R → R.b = true → R.xs = [x] → p ∉ x.cells.flatMap rootOf1
theorem blanks_eqv : ∀ (qs : List Nat) (l : List A) (st : St) (r0 : Nat → Option Root),qs.Nodup → Off q r0 qs → (∀ i ∈ qs,st.r i = r0 i ∨ st.r i = none) → Eqv q s v st (fun st => blanks st qs l)
 | [],[],st,r0,hn,ho,hr => ⟨rfl,fun st' h p hp => by cases h; rfl⟩
 | [],_ :: _,st,r0,hn,ho,hr => ⟨rfl,fun st' h p hp => by cases h⟩
 | i :: qs,[],st,r0,hn,ho,hr => ⟨rfl,fun st' h p hp => by cases h⟩
 | i :: qs,a :: l,st,r0,hn,ho,hr => by
   have hn2 := List.nodup_cons.1 hn
   have hother : ∀ j ∈ qs,j ≠ i := fun j hj e => hn2.1 (e ▸ hj)
   have hoff : Off q r0 qs := fun p hp j hj => ho p hp j (List.mem_cons_of_mem _ hj)
   have bad : (∀ z x,a ≠ .iob z [x]) → (∀ z xs,a ≠ .ios z xs) → a ≠ .any → ∀ st : St,blanks st (i :: qs) (a :: l) = none := fun h1 h2 h3 st => by
    unfold blanks
    split
    ·rename_i heq1 heq2; cases heq1
    ·rename_i heq1 heq2; cases heq2; exact absurd rfl (h1 _ _)
    ·rename_i heq1 heq2; cases heq2; exact absurd rfl (h2 _ _)
    ·rename_i heq1 heq2; cases heq2; exact absurd rfl h3
    ·rfl
   by_cases h1 : ∃ z x,a = .iob z [x]
   ·obtain ⟨z,x,rfl⟩ := h1
    have ih : ∀ (x0 : A),(st.r i = some ⟨true,((st.r i).getD default).z,[x0]⟩) → Eqv q s v { st with r := fun k => if k = i then some ⟨true,z,[reCell x (x.cells.map fun _ => .any)]⟩ else if (x0.cells.flatMap rootOf1).contains k then none else st.r k } (fun st => blanks st qs l) := fun x0 _ =>
     blanks_eqv qs l _ r0 hn2.2 hoff fun j hj => by
      have hne := hother j hj
      simp only [if_neg hne]
      split
      ·exact .inr rfl
      ·exact hr j (List.mem_cons_of_mem _ hj)
    constructor
    ·show blanks (st.put' s v) (i :: qs) (.iob z [x] :: l) = (blanks st (i :: qs) (.iob z [x] :: l)).map _
     simp only [blanks,put'_r]
     cases hi : st.r i with
     | none => rfl
     | some R =>
       obtain ⟨b,zz,xs⟩ := R
       simp only [Option.bind_some]
       cases b with
       | false => rfl
       | true =>
         cases xs with
         | nil => rfl
         | cons x0 xs =>
           cases xs with
           | nil => exact (ih x0 (by rw [hi]; rfl)).put
           | cons _ _ => rfl
    ·intro st' h p hp
     simp only [blanks] at h
     obtain ⟨⟨b,zz,xs⟩,hi,h⟩ := Option.bind_eq_some_iff.1 h
     cases b with
     | false => cases h
     | true =>
       cases xs with
       | nil => cases h
       | cons x0 xs =>
         cases xs with
         | cons _ _ => cases h
         | nil =>
           have h3 := (ih x0 (by rw [hi]; rfl)).keep _ h p hp
           obtain ⟨h4,h5⟩ := ho p hp i (by simp)
           rcases hr i (by simp) with e | e
           ·have h6 := h5 _ x0 (e ▸ hi) rfl rfl
            rw [h3]
            have h7 : ¬ p = i := fun e => h4 e.symm
            simp only [if_neg h7]
            rw [if_neg (by simpa using h6)]
           ·rw [e] at hi; cases hi
   ·by_cases h2 : ∃ z xs,a = .ios z xs
    ·obtain ⟨z,xs,rfl⟩ := h2
     have ih : Eqv q s v (st.setRoot i (some ⟨false,z,xs⟩)) (fun st => blanks st qs l) := blanks_eqv qs l _ r0 hn2.2 hoff fun j hj => by
      have hne := hother j hj
      simp only [St.setRoot,if_neg hne]
      exact hr j (List.mem_cons_of_mem _ hj)
     constructor
     ·exact ih.put
     ·intro st' h p hp
      have h3 := ih.keep _ h p hp
      rw [h3]
      have h4 : ¬ p = i := fun e => (ho p hp i (by simp)).1 e.symm
      simp [St.setRoot,h4]
    ·by_cases h3 : a = .any
     ·subst h3
      have ih : Eqv q s v (st.setRoot i none) (fun st => blanks st qs l) := blanks_eqv qs l _ r0 hn2.2 hoff fun j hj => by
       have hne := hother j hj
       simp only [St.setRoot,if_neg hne]
       exact hr j (List.mem_cons_of_mem _ hj)
      constructor
      ·exact ih.put
      ·intro st' h p hp
       have h3 := ih.keep _ h p hp
       rw [h3]
       have h4 : ¬ p = i := fun e => (ho p hp i (by simp)).1 e.symm
       simp [St.setRoot,h4]
     have e := bad (fun z x e => h1 ⟨z,x,e⟩) (fun z xs e => h2 ⟨z,xs,e⟩) h3
     exact ⟨by rw [e,e]; rfl,fun st' h p hp => by rw [e] at h; cases h⟩
theorem takeOuts_eqv (hv : Fix q v) (hq : ∀ p,q = some p → p < 1000) : ∀ (qs : List Nat) (l : List A) (st : St),(∀ p,q = some p → p ∉ qs) → Eqv q s v st (fun st => takeOuts st qs l)
 | [],[],st,ho => ⟨rfl,fun st' h p hp => by cases h; rfl⟩
 | [],_ :: _,st,ho => ⟨rfl,fun st' h p hp => by cases h⟩
 | i :: qs,[],st,ho => ⟨rfl,fun st' h p hp => by cases h⟩
 | i :: qs,a :: l,st,ho => by
   have ho2 : ∀ p,q = some p → p ∉ qs := fun p hp hm => ho p hp (List.mem_cons_of_mem _ hm)
   by_cases h1 : ∃ z x,a = .iob z [x]
   ·obtain ⟨z,x,rfl⟩ := h1
    have ht := takes_eqv (s := s) hv (qq := i) hq x.cells 0 st
    constructor
    ·show takeOuts (st.put' s v) (i :: qs) (.iob z [x] :: l) = (takeOuts st (i :: qs) (.iob z [x] :: l)).map _
     simp only [takeOuts]
     split
     ·rw [ht.1]
      cases takes i 0 st x.cells with
      | none => rfl
      | some y => exact (takeOuts_eqv hv hq qs l (y.2.setRoot i (some ⟨true,z,[reCell x y.1]⟩)) ho2).put
     ·rfl
    ·intro st' h p hp
     simp only [takeOuts] at h
     split at h
     ·obtain ⟨⟨cs,s1⟩,e1,h⟩ := Option.bind_eq_some_iff.1 h
      have h3 := (takeOuts_eqv hv hq qs l _ ho2).keep _ h p hp
      have h4 : ¬ p = i := fun e => ho p hp (by simp [e])
      rw [h3]
      simp only [St.setRoot,if_neg h4]
      exact ht.2 _ _ e1 p hp
     ·cases h
   ·by_cases h2 : ∃ z xs,a = .ios z xs
    ·obtain ⟨z,xs,rfl⟩ := h2
     exact takeOuts_eqv hv hq qs l st ho2
    ·by_cases h3 : a = .any
     ·subst h3
      exact takeOuts_eqv hv hq qs l st ho2
     have e : ∀ st : St,takeOuts st (i :: qs) (a :: l) = none := fun st => by
      unfold takeOuts
      split
      ·rename_i heq1 heq2; cases heq1
      ·rename_i heq1 heq2; cases heq2; exact absurd ⟨_,_,rfl⟩ h1
      ·rename_i heq1 heq2; cases heq2; exact absurd ⟨_,_,rfl⟩ h2
      ·rename_i heq1 heq2; cases heq2; exact absurd rfl h3
      ·rfl
     exact ⟨by rw [e,e]; rfl,fun st' h p hp => by rw [e] at h; cases h⟩
end
section
variable {q d : Option Nat} {st : St} {v : A} {s : Nat}
theorem lay_put (hs : s < gs) (vs : List A) : (st.put' s v).lay vs = (st.lay vs).put' s v := by
 simp only [St.lay,St.put']
 congr 1
 funext i
 by_cases h1 : gs ≤ i
 ·have : i ≠ s := by omega
  simp [h1,this]
 ·simp [h1]
theorem args1_put : ∀ (xs : List (Option A)) (l : List A),args1 (st.put' s v) xs l = args1 st xs l
 | [],[] => rfl
 | [],_ :: _ => rfl
 | some x :: xs,[] => rfl
 | none :: xs,[] => rfl
 | some x :: xs,_ :: l => by simp only [args1,args1_put xs l]
 | none :: xs,a :: l => by simp only [args1,args1_put xs l,put'_r]
theorem loanOf_put (a : A) : loanOf (st.put' s v) a = loanOf st a := by
 unfold loanOf
 rfl
theorem loans_put : ∀ (bs : List Bool) (l : List A),loans (st.put' s v) bs l = loans st bs l
 | bs,[] => by cases bs with
   | nil => rfl
   | cons b bs => cases b <;> rfl
 | true :: bs,a :: l => by simp only [loans,loans_put bs l,loanOf_put,put'_r]
 | false :: bs,a :: l => by simp only [loans,List.tail_cons,loans_put bs l]
 | [],a :: l => by simp only [loans,List.tail_nil,loans_put [] l]
theorem loanOf_is {a : A} {i : Nat} {x : A} (h : loanOf st a = some (i,x)) : ∃ R,st.r i = some R ∧ ((a = .loc i 0 0 ∧ R.b = true) ∨ ∃ n,a = .view i 0 n ∧ R.b = false) := by
 unfold loanOf at h
 split at h
 ·obtain ⟨R,hr,h⟩ := Option.bind_eq_some_iff.1 h
  split at h
  ·rename_i hb hx
   obtain ⟨cs,_,h⟩ := Option.map_eq_some_iff.1 h
   cases h
   exact ⟨R,hr,.inl ⟨rfl,hb⟩⟩
  ·cases h
 ·obtain ⟨R,hr,h⟩ := Option.bind_eq_some_iff.1 h
  split at h
  ·rename_i hc
   cases h
   exact ⟨R,hr,.inr ⟨_,rfl,hc.2⟩⟩
  ·cases h
 ·cases h
theorem loans_qs : ∀ (bs : List Bool) (l : List A) {ls : List (Option A)} {qs ns : List Nat},loans st bs l = some (ls,qs,ns) → ns.Nodup → qs.Nodup ∧ (∀ i ∈ qs,i ∈ ns) ∧ ∀ i ∈ qs,∃ a ∈ l,∃ R,st.r i = some R ∧ ((a = .loc i 0 0 ∧ R.b = true) ∨ ∃ n,a = .view i 0 n ∧ R.b = false)
 | bs,[],ls,qs,ns,h,hn => by
   have : qs = [] := by
    cases bs with
    | nil => cases h; rfl
    | cons b bs => cases b <;> (cases h; rfl)
   subst this; exact ⟨by simp,by simp,by simp⟩
 | true :: bs,a :: l,ls,qs,ns,h,hn => by
   simp only [loans] at h
   obtain ⟨⟨i,x⟩,e1,h⟩ := Option.bind_eq_some_iff.1 h
   obtain ⟨⟨xs,qs',ns'⟩,e2,h⟩ := Option.map_eq_some_iff.1 h
   cases h
   obtain ⟨R,hR,hk⟩ := loanOf_is e1
   have hmem : i ∈ names st.r a := by
    rcases hk with ⟨rfl,_⟩ | ⟨n,rfl,_⟩ <;> simp [names,namesOf]
   have hn' := List.nodup_append.1 hn
   obtain ⟨g1,g2,g3⟩ := loans_qs bs l e2 hn'.2.1
   refine ⟨List.nodup_cons.2 ⟨fun hm => hn'.2.2 i hmem i (g2 i hm) rfl,g1⟩,fun j hj => ?_,fun j hj => ?_⟩
   ·rcases List.mem_cons.1 hj with rfl | hj
    ·exact List.mem_append_left _ hmem
    ·exact List.mem_append_right _ (g2 j hj)
   ·rcases List.mem_cons.1 hj with rfl | hj
    ·exact ⟨a,by simp,R,hR,hk⟩
    ·obtain ⟨b,hb,k⟩ := g3 j hj
     exact ⟨b,List.mem_cons_of_mem _ hb,k⟩
 | false :: bs,a :: l,ls,qs,ns,h,hn => by
   simp only [loans,List.tail_cons] at h
   obtain ⟨⟨xs,qs',ns'⟩,e2,h⟩ := Option.map_eq_some_iff.1 h
   cases h
   obtain ⟨g1,g2,g3⟩ := loans_qs bs l e2 hn
   exact ⟨g1,g2,fun j hj => by obtain ⟨b,hb,k⟩ := g3 j hj; exact ⟨b,List.mem_cons_of_mem _ hb,k⟩⟩
 | [],a :: l,ls,qs,ns,h,hn => by
   simp only [loans,List.tail_nil] at h
   obtain ⟨⟨xs,qs',ns'⟩,e2,h⟩ := Option.map_eq_some_iff.1 h
   cases h
   obtain ⟨g1,g2,g3⟩ := loans_qs [] l e2 hn
   exact ⟨g1,g2,fun j hj => by obtain ⟨b,hb,k⟩ := g3 j hj; exact ⟨b,List.mem_cons_of_mem _ hb,k⟩⟩
theorem landR_eqv (hv : Fix q v) (hV : Var q d st) (hd : d ≠ some s) (rs : List A) : Eqv q s v st (fun st => landR st d rs) := by
 have other : (∀ z x i,¬ (rs = [.iob z [x]] ∧ d = some i)) → ∀ st : St,landR st d rs = if rs.any isIob then none else some (st.put d (packR (d.getD 0) rs)) := fun h st => by
  unfold landR
  split
  ·exact absurd ⟨rfl,rfl⟩ (h _ _ _)
  ·rfl
 by_cases h1 : ∃ z x i,rs = [.iob z [x]] ∧ d = some i
 ·obtain ⟨z,x,i,rfl,rfl⟩ := h1
  have hk : ∀ p,q = some p → p < 1000 ∧ i ≠ p := fun p hp => ⟨hV.lt p hp,fun e => hV.ne p hp (by rw [e])⟩
  have ht := takeVar_eqv (s := s) (st := st) (z := z) (x := x) hv hk
  have hne : i ≠ s := fun e => hd (by rw [e])
  constructor
  ·show ((takeVar (st.put' s v) i z x).map fun st1 => st1.put (some i) (.loc i 0 0)) = ((takeVar st i z x).map fun st1 => st1.put (some i) (.loc i 0 0)).map _
   have hp := ht.put
   rw [show takeVar (st.put' s v) i z x = _ from hp]
   cases takeVar st i z x with
   | none => rfl
   | some y => simp only [Option.map_some]; rw [put_put' _ hd]
  ·intro st' h p hp
   obtain ⟨y,e1,h⟩ := Option.map_eq_some_iff.1 (show ((takeVar st i z x).map fun st1 => st1.put (some i) (.loc i 0 0)) = some st' from h)
   cases h
   exact ht.keep y e1 p hp
 ·have e := other fun z x i h => h1 ⟨z,x,i,h⟩
  constructor
  ·show landR (st.put' s v) d rs = (landR st d rs).map _
   rw [e,e]
   split
   ·rfl
   ·simp only [Option.map_some]; rw [put_put' _ hd]
  ·intro st' h p hp
   simp only [e] at h
   split at h
   ·cases h
   ·cases h; cases d <;> rfl
theorem giveBack_eqv (hv : Fix q v) (hq : ∀ p,q = some p → p < 1000) {qs : List Nat} (hn : qs.Nodup) (ho : Off q st.r qs) (os : List A) : Eqv q s v st (fun st => giveBack st qs os) :=
 bind_eqv (blanks_eqv qs os st st.r hn ho fun i _ => .inl rfl) fun st' _ => takeOuts_eqv hv hq qs os st' fun p hp hm => (ho p hp p hm).1 rfl
theorem lay_at {vs : List A} {j : Nat} {a : A} (h : (st.lay vs).t (gs + j) = a) (ha : a ≠ .any) : a ∈ vs := by
 simp only [St.lay] at h
 rw [if_pos (by omega),show gs + j - gs = j by omega] at h
 cases hj : vs[j]? with
 | none => rw [hj] at h; exact absurd h.symm ha
 | some b => rw [hj] at h; simp at h; subst h; exact List.mem_of_getElem? hj
theorem call_eqv {cf : CF} {io : Nat → List Bool} (hv : Fix q v) (hs : s < gs) (hV : Var q d st) {f : Opd} {args : List Opd} (hf : f.v (st.put' s v) = f.v st) (ha : args.map (Opd.v (st.put' s v)) = args.map (Opd.v st)) (hd : d ≠ some s)
 (ht : ∀ p,q = some p → p ∉ touch st (.call f args)) : Eqv q s v st (fun st => stepW cf io d st (.call f args)) := by
 let G : Nat → Nat → St → Option St := fun g n st1 =>
  let vs := (List.range n).map fun j => st1.t (gs + j)
  (loans st1 (io g) vs).bind fun (ls,qs,ns) =>
    if decide ns.Nodup then
     (args1 { st1 with r := less st1.r ns } ls vs).bind fun as => (cf g as).bind fun (res,outs) =>
       (giveBack (st1.lay []) qs outs).bind fun st2 => landR st2 d res
    else none
 cases hfv : f.v st with
 | fn g caps =>
   have e : ∀ x : St,f.v x = .fn g caps → stepW cf io d x (.call f args) = ((x.lay (args.map (Opd.v x) ++ caps)).pinAll (io g) 0 (args.length + caps.length)).bind (G g (args.length + caps.length)) := fun x hx => by
    simp only [stepW,hx]; rfl
   have hVl : Var q d (st.lay (args.map (Opd.v st) ++ caps)) := ⟨hV.lt,hV.ne,hV.b⟩
   have h1 := pinAll_eqv hv hs (args.length + caps.length) (io g) 0 hVl
   have hG : ∀ st1,(st.lay (args.map (Opd.v st) ++ caps)).pinAll (io g) 0 (args.length + caps.length) = some st1 → Eqv q s v st1 (G g (args.length + caps.length)) := fun st1 hp => by
    have hV1 : Var q d st1 := hVl.of_keep (h1.keep st1 hp)
    have hshr := pinAll_shr hp
    have hvs : ((List.range (args.length + caps.length)).map fun j => (st1.put' s v).t (gs + j)) = (List.range (args.length + caps.length)).map fun j => st1.t (gs + j) :=
     List.map_congr_left fun j _ => put'_ne (by omega)
    have hB : ∀ (ls : List (Option A)) (qs ns : List Nat),loans st1 (io g) ((List.range (args.length + caps.length)).map fun j => st1.t (gs + j)) = some (ls,qs,ns) → ns.Nodup → ∀ res outs : List A,
     Eqv q s v (st1.lay []) (fun x => (giveBack x qs outs).bind fun st2 => landR st2 d res) := fun ls qs ns hl hn res outs => by
     obtain ⟨g1,g2,g3⟩ := loans_qs _ _ hl hn
     have ho : Off q (st1.lay []).r qs := fun p hp i hi => by
      obtain ⟨a,ham,R,hR,hk⟩ := g3 i hi
      obtain ⟨j,_,rfl⟩ := List.mem_map.1 ham
      have hRr : st.r i = some R ∨ (1002000 ≤ i ∧ R.b = false) := by
       rcases hshr.r i with e | e | ⟨e,z,xs,e2⟩
       ·exact .inl (e.symm.trans hR)
       ·rw [e] at hR; cases hR
       ·exact .inr ⟨e,by rw [e2] at hR; cases hR; rfl⟩
      have hin : ∀ a0 : A,a0 ≠ .any → (st.lay (args.map (Opd.v st) ++ caps)).t (gs + j) = a0 → ∀ m ∈ names st.r a0,m ∈ touch st (.call f args) := fun a0 hne e m hm => by
       have := lay_at e hne
       simp only [touch,hfv]
       rcases List.mem_append.1 this with h' | h'
       ·exact List.mem_append_left _ (List.mem_flatMap.2 ⟨a0,h',hm⟩)
       ·exact List.mem_append_right _ (List.mem_flatMap.2 ⟨a0,h',hm⟩)
      rcases hk with ⟨e,hb⟩ | ⟨n,e,hb⟩
      ·have e0 := hin _ (by intro e; cases e) (hshr.loc _ _ _ _ e)
       refine ⟨fun e' => ht p hp (e0 p (by simp [names,namesOf,e'])),fun R' x h2 _ h3 hm => ht p hp (e0 p ?_)⟩
       have h2 : st1.r i = some R' := h2
       rw [hR] at h2; cases h2
       have hRr : st.r i = some R := by
        rcases hRr with h | ⟨_,h⟩
        ·exact h
        ·rw [hb] at h; cases h
       simp only [names,namesOf,hRr,h3,List.flatMap_cons,List.flatMap_nil,List.append_nil]
       exact List.mem_cons_of_mem _ hm
      ·refine ⟨fun e' => ?_,fun R' x h2 h4 h3 hm => ?_⟩
       ·rcases hshr.view _ _ _ _ e with e1 | e1
        ·have e0 := hin _ (by intro e; cases e) e1
         exact ht p hp (e0 p (by simp [names,namesOf,e']))
        ·have := hV.lt p hp; omega
       have h2 : st1.r i = some R' := h2
       rw [hR] at h2; cases h2
       rw [hb] at h4; cases h4
     have hVb : Var q d (st1.lay []) := ⟨hV1.lt,hV1.ne,hV1.b⟩
     have hg := giveBack_eqv (s := s) hv hV1.lt g1 ho outs
     exact bind_eqv hg fun st' h' => landR_eqv hv (hVb.of_keep (hg.keep st' h')) hd res
    constructor
    ·show G g (args.length + caps.length) (st1.put' s v) = (G g (args.length + caps.length) st1).map _
     simp only [G,hvs,loans_put]
     cases hl : loans st1 (io g) ((List.range (args.length + caps.length)).map fun j => st1.t (gs + j)) with
     | none => rfl
     | some y =>
       obtain ⟨ls,qs,ns⟩ := y
       simp only [Option.bind_some]
       by_cases hn : ns.Nodup
       ·simp only [hn,decide_true,if_true]
        have ea : args1 { (st1.put' s v) with r := less (st1.put' s v).r ns } ls ((List.range (args.length + caps.length)).map fun j => st1.t (gs + j)) = args1 { st1 with r := less st1.r ns } ls ((List.range (args.length + caps.length)).map fun j => st1.t (gs + j)) :=
         args1_put (st := { st1 with r := less st1.r ns }) _ _
        rw [ea]
        cases args1 { st1 with r := less st1.r ns } ls ((List.range (args.length + caps.length)).map fun j => st1.t (gs + j)) with
        | none => rfl
        | some as =>
          simp only [Option.bind_some]
          cases cf g as with
          | none => rfl
          | some y =>
            simp only [Option.bind_some,lay_put hs]
            exact (hB ls qs ns hl hn y.1 y.2).put
       ·simp only [hn,decide_false,Bool.false_eq_true,if_false]; rfl
    ·intro st' h p hp
     simp only [G] at h
     obtain ⟨⟨ls,qs,ns⟩,hl,h⟩ := Option.bind_eq_some_iff.1 h
     simp only at h
     split at h
     ·rename_i hn
      obtain ⟨as,_,h⟩ := Option.bind_eq_some_iff.1 h
      obtain ⟨⟨res,outs⟩,_,h⟩ := Option.bind_eq_some_iff.1 h
      exact (hB ls qs ns hl (by simpa using hn) res outs).keep st' h p hp
     ·cases h
   have h2 := bind_eqv h1 hG
   constructor
   ·show stepW cf io d (st.put' s v) (.call f args) = (stepW cf io d st (.call f args)).map _
    rw [e st hfv,e (st.put' s v) (hf.trans hfv),ha,lay_put hs]
    exact h2.put
   ·intro st' h p hp
    have h : stepW cf io d st (.call f args) = some st' := h
    rw [e st hfv] at h
    exact h2.keep st' h p hp
 | _ =>
   have e : ∀ x : St,f.v x = f.v st → stepW cf io d x (.call f args) = none := fun x hx => by simp only [stepW,hx,hfv]
   exact ⟨by rw [e _ hf,e _ rfl]; rfl,fun st' h => by rw [e _ rfl] at h; cases h⟩
theorem alloc_eqv {cf : CF} {io : Nat → List Bool} (hv : Fix q v) (hne : ∀ p,q = some p → d ≠ some p) {z : Nat} {zero : A} (hd : d ≠ some s) : Eqv q s v st (fun st => stepW cf io d st (.alloc z zero)) := by
 cases d with
 | none => exact ⟨rfl,fun st' h => by cases h⟩
 | some i =>
   have hk : ∀ p,q = some p → i ≠ p := fun p hp e => hne p hp (by rw [e])
   constructor
   ·show stepW cf io (some i) (st.put' s v) (.alloc z zero) = (stepW cf io (some i) st (.alloc z zero)).map _
    simp only [stepW]
    split
    ·simp only [Option.map_some,St.kill]
     rw [map_put (hv.kill hk),setRoot_put,put_put' _ hd]
    ·rfl
   ·intro st' h p hp
    simp only [stepW] at h
    split at h
    ·cases h
     have := Ne.symm (hk p hp)
     simp [St.put,St.setRoot,St.kill,St.map,this]
    ·cases h
end
section
variable {q d : Option Nat} {st : St} {v : A} {s : Nat}
theorem absorb1_eqv (hv : Fix q v) (hs : s < gs) (hV : Var q d st) {qq c j : Nat} : (St.absorb1 (st.put' s v) qq c j) = (St.absorb1 st qq c j).map (fun x => (x.1,x.2.put' s v)) ∧ ∀ x st',St.absorb1 st qq c j = some (x,st') → ∀ p,q = some p → st'.r p = st.r p := by
 have hne : gs ≠ s := by omega
 have hsub : ∀ p,q = some p → ∀ c,sub qq c ≠ p := fun p hp c e => by have := hV.lt p hp; unfold sub at e; omega
 have hp1 := pin1_eqv hv hV hne j
 unfold St.absorb1
 rw [put'_ne hne]
 split
 ·split
  ·refine ⟨?_,fun x st' h p hp => ?_⟩
   ·simp only [Option.map_some,St.kill,St.killTok]
    rw [map_put (hv.killTok _),map_put (hv.kill fun p hp => hsub p hp _),setRoot_put]
   ·cases h
    have := hsub p hp (c + j)
    simp [St.setRoot,St.kill,St.killTok,St.map,Ne.symm this]
  ·exact ⟨rfl,fun x st' h => by cases h⟩
 ·rename_i r off n hc
  by_cases hcd : r = sub qq (c + j) ∧ c + j < 1000 ∧ (st.r r).isSome = true
  ·have hcd' : r = sub qq (c + j) ∧ c + j < 1000 ∧ ((st.put' s v).r r).isSome = true := hcd
   rw [if_pos hcd',if_pos hcd]
   exact ⟨rfl,fun x st' h p hp => by cases h; rfl⟩
  ·have hcd' : ¬ (r = sub qq (c + j) ∧ c + j < 1000 ∧ ((st.put' s v).r r).isSome = true) := hcd
   rw [if_neg hcd',if_neg hcd]
   refine ⟨?_,fun x st' h p hp => ?_⟩
   ·rw [show (st.put' s v).pin1 gs j = (st.pin1 gs j).map (·.put' s v) from hp1.put]
    cases st.pin1 gs j with
    | none => rfl
    | some s1 =>
      simp only [Option.map_some,Option.bind_some,put'_ne hne]
      split <;> rfl
   ·obtain ⟨s1,e1,h⟩ := Option.bind_eq_some_iff.1 h
    split at h
    ·cases h; exact hp1.keep _ e1 p hp
    ·cases h
 ·exact ⟨rfl,fun x st' h p hp => by cases h; rfl⟩
 ·split
  ·exact ⟨rfl,fun x st' h p hp => by cases h; rfl⟩
  ·exact ⟨rfl,fun x st' h => by cases h⟩
theorem absorbs_eqv (hv : Fix q v) (hs : s < gs) {qq c : Nat} : ∀ (n j : Nat) {st : St},Var q d st → (St.absorbs (st.put' s v) qq c j n) = (St.absorbs st qq c j n).map (fun x => (x.1,x.2.put' s v)) ∧ ∀ x st',St.absorbs st qq c j n = some (x,st') → ∀ p,q = some p → st'.r p = st.r p
 | 0,j,st,hV => ⟨rfl,fun x st' h p hp => by cases h; rfl⟩
 | n + 1,j,st,hV => by
   have h1 := absorb1_eqv hv hs hV (qq := qq) (c := c) (j := j)
   refine ⟨?_,fun x st' h p hp => ?_⟩
   ·simp only [St.absorbs,h1.1]
    cases h : St.absorb1 st qq c j with
    | none => rfl
    | some y =>
      obtain ⟨y,s1⟩ := y
      have h2 := absorbs_eqv hv hs (qq := qq) (c := c) n (j + 1) (hV.of_keep (h1.2 _ _ h))
      simp only [Option.map_some,Option.bind_some,h2.1]
      cases St.absorbs s1 qq c (j + 1) n <;> rfl
   ·simp only [St.absorbs] at h
    obtain ⟨⟨y,s1⟩,e1,h⟩ := Option.bind_eq_some_iff.1 h
    obtain ⟨⟨ys,s2⟩,e2,h⟩ := Option.map_eq_some_iff.1 h
    cases h
    rw [(absorbs_eqv hv hs (qq := qq) (c := c) n (j + 1) (hV.of_keep (h1.2 _ _ e1))).2 _ _ e2 p hp,h1.2 _ _ e1 p hp]
theorem pin_eqv (hv : Fix q v) (hs : s < gs) (hV : Var q d st) (x : A) : St.pin (st.put' s v) x = (St.pin st x).map (fun y => (y.1,y.2.put' s v)) ∧ ∀ y st',St.pin st x = some (y,st') → ∀ p,q = some p → st'.r p = st.r p := by
 have hne : gs ≠ s := by omega
 have hVg : Var q d (st.put' gs x) := ⟨hV.lt,hV.ne,hV.b⟩
 have h1 := pinN_eqv hv hVg hne x.cells.length
 unfold St.pin
 refine ⟨?_,fun y st' h p hp => ?_⟩
 ·rw [put'_put' x hne,show ((st.put' gs x).put' s v).pinN gs x.cells.length = _ from h1.put]
  cases (st.put' gs x).pinN gs x.cells.length with
  | none => rfl
  | some s1 =>
    simp only [Option.map_some,Option.bind_some,put'_ne hne]
    cases dat (s1.t gs) with
    | none => rfl
    | some u => simp only [Option.map_some,put'_put' A.any hne]
 ·obtain ⟨s1,e1,h⟩ := Option.bind_eq_some_iff.1 h
  obtain ⟨u,_,h⟩ := Option.map_eq_some_iff.1 h
  cases h
  exact h1.keep _ e1 p hp
theorem sto_eqv {cf : CF} {io : Nat → List Bool} (hv : Fix q v) (hs : s < gs) (hV : Var q d st) {n : Nat} {a x : Opd} (ha : a.v (st.put' s v) = a.v st) (hx : x.v (st.put' s v) = x.v st) (hd : d ≠ some s)
 (ht : ∀ p,q = some p → p ∉ touch st (.sto n a x)) : Eqv q s v st (fun st => stepW cf io d st (.sto n a x)) := by
 have hne : gs ≠ s := by omega
 have key : ∀ r i c,a.v st = .loc r i c → ∀ p,q = some p → r ≠ p := fun r i c e p hp e' => ht p hp (by simp [touch,e,e'])
 have hVb : ∀ (r : Nat) (R : Root),(∀ p,q = some p → r ≠ p) → Var q d ((st.put' gs (x.v st)).setRoot r (some R)) := fun r R hr =>
  hV.of_keep fun p hp => by simp [St.setRoot,St.put',Ne.symm (hr p hp)]
 constructor
 ·show stepW cf io d (st.put' s v) (.sto n a x) = (stepW cf io d st (.sto n a x)).map _
  simp only [stepW,ha,hx]
  split
  ·split
   ·rename_i r i c hav
    have hr := key r i c hav
    cases hR : st.r r with
    | none => rw [show (st.put' s v).r r = none from hR]; rfl
    | some R =>
      obtain ⟨b,z,xs⟩ := R
      rw [show (st.put' s v).r r = some ⟨b,z,xs⟩ from hR]
      simp only [Option.bind_some]
      split
      ·rename_i e
       by_cases hcd : r < 1000 ∧ c + n ≤ e.cells.length ∧ c + n ≤ 1000 ∧ (x.v st).cells.all (solid st.r) = true
       ·have hcd' : r < 1000 ∧ c + n ≤ e.cells.length ∧ c + n ≤ 1000 ∧ (x.v st).cells.all (solid (st.put' s v).r) = true := hcd
        rw [if_pos hcd',if_pos hcd,put'_put' _ hne,setRoot_put,(absorbs_eqv hv hs n 0 (hVb r _ hr)).1]
        cases ((st.put' gs (x.v st)).setRoot r (some ⟨true,z,[blank e c n]⟩)).absorbs r c 0 n with
        | none => rfl
        | some y => simp only [Option.map_some]; rw [put'_put' _ hne,setRoot_put,put_put' _ hd]
       ·have hcd' : ¬ (r < 1000 ∧ c + n ≤ e.cells.length ∧ c + n ≤ 1000 ∧ (x.v st).cells.all (solid (st.put' s v).r) = true) := hcd
        rw [if_neg hcd',if_neg hcd]; rfl
      ·rw [(pin_eqv hv hs hV (x.v st)).1]
       cases st.pin (x.v st) with
       | none => rfl
       | some y =>
         simp only [Option.map_some,Option.bind_some,put'_r]
         by_cases hcd : y.1.cells.length = n
         ·simp only [if_pos hcd]
          cases y.2.r r with
          | none => rfl
          | some R =>
            simp only [Option.bind_some]
            cases R.xs[i]? with
            | none => rfl
            | some e =>
              simp only [Option.bind_some]
              cases setCells e.cells c y.1.cells with
              | none => rfl
              | some cs => simp only [Option.map_some]; rw [setRoot_put,put_put' _ hd]
         ·simp only [if_neg hcd]; rfl
      ·rfl
   ·rfl
  ·rfl
 ·intro st' h p hp
  have h : stepW cf io d st (.sto n a x) = some st' := h
  simp only [stepW] at h
  split at h
  ·split at h
   ·rename_i r i c hav
    have hr := key r i c hav
    have hrp : ¬ p = r := fun e => hr p hp e.symm
    obtain ⟨⟨b,z,xs⟩,hR,h⟩ := Option.bind_eq_some_iff.1 h
    simp only at h
    split at h
    ·rename_i e _
     split at h
     ·obtain ⟨⟨cs,s1⟩,e1,h⟩ := Option.map_eq_some_iff.1 h
      cases h
      have h2 := (absorbs_eqv hv hs (s := s) n 0 (hVb r _ hr)).2 _ _ e1 p hp
      simp only [St.setRoot,St.put',if_neg hrp] at h2
      have : (((s1.put' gs .any).setRoot r (some ⟨true,z,[reCell e (e.cells.take c ++ cs ++ e.cells.drop (c + n))]⟩)).put d .any).r p = s1.r p := by
       cases d <;> simp [St.put,St.setRoot,St.put',hrp]
      rw [this,h2]
     ·cases h
    ·obtain ⟨⟨u,s1⟩,e1,h⟩ := Option.bind_eq_some_iff.1 h
     simp only at h
     split at h
     ·obtain ⟨R,_,h⟩ := Option.bind_eq_some_iff.1 h
      obtain ⟨e,_,h⟩ := Option.bind_eq_some_iff.1 h
      obtain ⟨cs,_,h⟩ := Option.map_eq_some_iff.1 h
      cases h
      have h2 := (pin_eqv hv hs (s := s) hV (x.v st)).2 _ _ e1 p hp
      have : ∀ X,((s1.setRoot r X).put d .any).r p = s1.r p := fun X => by cases d <;> simp [St.put,St.setRoot,hrp]
      rw [this,h2]
     ·cases h
    ·cases h
   ·cases h
  ·cases h
end
section
variable {q d : Option Nat} {st : St} {v : A} {s : Nat}
theorem asg_eqv {cf : CF} {io : Nat → List Bool} (hv : Fix q v) (hV : Var q d st) {x : Opd} (hx : x.v (st.put' s v) = x.v st) (hd : d ≠ some s) : Eqv q s v st (fun st => stepW cf io d st (.asg x)) := by
 have hk : ∀ i,d = some i → ∀ p,q = some p → i ≠ p := fun i hi p hp e => hV.ne p hp (by rw [hi,e])
 cases d with
 | none =>
   have e : ∀ y : St,stepW cf io none y (.asg x) = some (y.put none (x.v y)) := fun y => rfl
   exact ⟨by rw [e,e]; rfl,fun st' h p hp => by rw [e] at h; cases h; rfl⟩
 | some i =>
 have hk := hk i rfl
 constructor
 ·show stepW cf io (some i) (st.put' s v) (.asg x) = (stepW cf io (some i) st (.asg x)).map _
  cases hxv : x.v st <;> simp only [stepW,hx,hxv] <;> first
   | (simp only [Option.map_some]; rw [put_put' _ hd]; done)
   | (split
      ·simp only [Option.map_some,St.kill]
       rw [map_put (hv.kill hk),setRoot_put,put_put' _ hd]
      ·rfl)
   | (split
      ·simp only [Option.map_some,St.kill,St.killTok]
       rw [map_put (hv.killTok _),map_put (hv.kill hk),setRoot_put,put_put' _ hd]
      ·rfl)
 ·intro st' h p hp
  have h : stepW cf io (some i) st (.asg x) = some st' := h
  have hn := Ne.symm (hk p hp)
  cases hxv : x.v st <;> simp only [stepW,hxv] at h <;> first
   | (cases h; rfl)
   | (split at h
      ·cases h; simp [St.put,St.setRoot,St.kill,St.killTok,St.map,hn]
      ·cases h)
theorem opd_put {x : Opd} (h : s ∉ opdU x) : x.v (st.put' s v) = x.v st := by
 cases x with
 | c a => rfl
 | t i => exact put'_ne fun e => h (by simp [opdU,e])
theorem fillQ_eqv (hv : Fix q v) (hs : s < gs) {z : Nat} : ∀ (l : List (Nat × Opd)) (xs : List A) {st : St},Var q d st → (∀ p ∈ l,s ∉ opdU p.2) →
 stepW.fillQ (st.put' s v) z xs l = (stepW.fillQ st z xs l).map (fun y => (y.1,y.2.put' s v)) ∧ ∀ y st',stepW.fillQ st z xs l = some (y,st') → ∀ p,q = some p → st'.r p = st.r p
 | [],xs,st,hV,hl => ⟨rfl,fun y st' h p hp => by cases h; rfl⟩
 | (i,x) :: l,xs,st,hV,hl => by
   have hx : x.v (st.put' s v) = x.v st := opd_put (hl (i,x) (by simp))
   obtain ⟨p1,p2⟩ := pin_eqv hv hs hV (x.v st)
   have hl' : ∀ p ∈ l,s ∉ opdU p.2 := fun p hp => hl p (List.mem_cons_of_mem _ hp)
   refine ⟨?_,fun y st' h p hp => ?_⟩
   ·simp only [stepW.fillQ,hx,p1]
    cases h : St.pin st (x.v st) with
    | none => rfl
    | some r =>
      obtain ⟨u,s1⟩ := r
      simp only [Option.map_some,Option.bind_some]
      split
      ·exact (fillQ_eqv hv hs l _ (hV.of_keep (p2 _ _ h)) hl').1
      ·rfl
   ·simp only [stepW.fillQ] at h
    obtain ⟨⟨u,s1⟩,h1,h⟩ := Option.bind_eq_some_iff.1 h
    simp only at h
    split at h
    ·rw [(fillQ_eqv hv hs l _ (hV.of_keep (p2 _ _ h1)) hl').2 _ _ h p hp,p2 _ _ h1 p hp]
    ·cases h
theorem bsl_eqv {cf : CF} {io : Nat → List Bool} (hv : Fix q v) (hs : s < gs) (hV : Var q d st) {z n : Nat} {zero : A} {ps : List (Nat × Opd)} (hps : ∀ p ∈ ps,s ∉ opdU p.2) (hd : d ≠ some s) : Eqv q s v st (fun st => stepW cf io d st (.bsl z zero n ps)) := by
 have h := fillQ_eqv hv hs (z := z) ps (List.replicate n zero) hV hps
 constructor
 ·show stepW cf io d (st.put' s v) (.bsl z zero n ps) = (stepW cf io d st (.bsl z zero n ps)).map _
  cases d with
  | none => rfl
  | some d =>
    simp only [stepW,h.1]
    split
    ·cases stepW.fillQ st z (List.replicate n zero) ps with
     | none => rfl
     | some r => simp only [Option.map_some]; rw [put_put' _ hd]
    ·rfl
 ·intro st' he p hp
  have he : stepW cf io d st (.bsl z zero n ps) = some st' := he
  cases d with
  | none => cases he
  | some d =>
    simp only [stepW] at he
    split at he
    ·obtain ⟨⟨xs,s1⟩,h1,he⟩ := Option.map_eq_some_iff.1 he
     cases he
     exact h.2 _ _ h1 p hp
    ·cases he
theorem noView_unTok {a : A} (h : noView a = true) (k : Nat) : noView (Ab.unTok k a) = true := by
 have one : ∀ c : A,(match c with | .view .. => false | _ => true) = true → (match unTok1 k c with | .view .. => false | _ => true) = true := fun c hc => by
  cases c <;> first
   | rfl
   | exact hc
   | (rename_i j z xs
      by_cases e : j = k <;> simp [unTok1,e])
 cases a <;> first
  | (simp only [noView,Ab.unTok,comps,A.cells,List.all_cons,List.all_nil,Bool.and_true] at h ⊢; exact one _ h)
  | (simp only [noView,Ab.unTok,comps,A.cells,List.all_map,List.all_eq_true] at h ⊢
     exact fun c hc => one c (h c hc))
  | (simp [noView,A.cells] at h; done)
  | (rename_i j z xs
     by_cases e : j = k <;> simp [Ab.unTok,comps,unTok1,e,noView,A.cells]
     done)
  | rfl
structure EqvT (s : Nat) (v : A) (st : St) (F : St → Option St) : Prop where
 put : F (st.put' s v) = (F st).map (·.put' s v)
 keep : ∀ st',F st = some st' → st'.r = st.r ∧ ∀ i,noView (st.t i) = true → noView (st'.t i) = true
theorem pin1_eqvT (hv : Fix q v) {i : Nat} (hi : i ≠ s) (hn : noView (st.t i) = true) (j : Nat) : EqvT s v st (·.pin1 i j) := by
 have hc : ∀ r off n,comp (st.t i) j ≠ .view r off n := fun r off n e => by
  simp only [comp] at e
  cases h : (st.t i).cells[j]? with
  | none => rw [h] at e; cases e
  | some c =>
    rw [h] at e
    have e : c = .view r off n := e
    have := List.all_eq_true.1 hn c (List.mem_of_getElem? h)
    rw [e] at this; cases this
 constructor
 ·show (st.put' s v).pin1 i j = (st.pin1 i j).map (·.put' s v)
  simp only [St.pin1,put'_ne hi,put'_r]
  split
  ·simp only [Option.map_some]; rw [map_put (hv.unTok _)]
  ·rename_i r off n e; exact absurd e (hc r off n)
  ·rfl
 ·intro st' h
  simp only [St.pin1] at h
  split at h
  ·cases h; exact ⟨rfl,fun i hi => noView_unTok hi _⟩
  ·rename_i r off n e; exact absurd e (hc r off n)
  ·cases h; exact ⟨rfl,fun _ h => h⟩
theorem pinN_eqvT (hv : Fix q v) {i : Nat} (hi : i ≠ s) (hn : noView (st.t i) = true) : ∀ n : Nat,EqvT s v st (·.pinN i n)
 | 0 => ⟨rfl,fun st' h => by cases h; exact ⟨rfl,fun _ h => h⟩⟩
 | n + 1 => by
   have h0 := pinN_eqvT hv hi hn n
   constructor
   ·show ((st.put' s v).pinN i n).bind (fun s1 => s1.pin1 i n) = ((st.pinN i n).bind fun s1 => s1.pin1 i n).map (·.put' s v)
    rw [show (st.put' s v).pinN i n = _ from h0.put]
    cases h : st.pinN i n with
    | none => rfl
    | some s1 =>
      simp only [Option.map_some,Option.bind_some]
      exact (pin1_eqvT hv hi ((h0.keep s1 h).2 i hn) n).put
   ·intro st' h
    have h : (st.pinN i n).bind (fun s1 => s1.pin1 i n) = some st' := h
    obtain ⟨s1,h1,h2⟩ := Option.bind_eq_some_iff.1 h
    obtain ⟨a1,a2⟩ := h0.keep s1 h1
    obtain ⟨b1,b2⟩ := (pin1_eqvT hv hi (a2 i hn) n).keep st' h2
    exact ⟨b1.trans a1,fun k hk => b2 k (a2 k hk)⟩
theorem pin_eqvT (hv : Fix q v) (hs : s < gs) {x : A} (hn : noView x = true) : St.pin (st.put' s v) x = (St.pin st x).map (fun y => (y.1,y.2.put' s v)) ∧ ∀ y st',St.pin st x = some (y,st') → st'.r = st.r ∧ ∀ i,noView (st.t i) = true → noView (st'.t i) = true := by
 have hne : gs ≠ s := by omega
 have hng : noView ((st.put' gs x).t gs) = true := by simpa [St.put'] using hn
 have h1 := pinN_eqvT (st := st.put' gs x) hv hne hng x.cells.length
 unfold St.pin
 refine ⟨?_,fun y st' h => ?_⟩
 ·rw [put'_put' x hne,show ((st.put' gs x).put' s v).pinN gs x.cells.length = _ from h1.put]
  cases (st.put' gs x).pinN gs x.cells.length with
  | none => rfl
  | some s1 =>
    simp only [Option.map_some,Option.bind_some,put'_ne hne]
    cases dat (s1.t gs) with
    | none => rfl
    | some u => simp only [Option.map_some,put'_put' A.any hne]
 ·obtain ⟨s1,e1,h⟩ := Option.bind_eq_some_iff.1 h
  obtain ⟨u,_,h⟩ := Option.map_eq_some_iff.1 h
  cases h
  obtain ⟨a1,a2⟩ := h1.keep _ e1
  refine ⟨a1,fun i hi => ?_⟩
  by_cases hg : i = gs
  ·subst hg; simp [St.put',noView,A.cells]
  ·have := a2 i (by simpa [St.put',hg] using hi)
   simpa [St.put',hg] using this
theorem opd_noView {st st' : St} {x : Opd} (h : noView (x.v st) = true) (hk : ∀ i,noView (st.t i) = true → noView (st'.t i) = true) : noView (x.v st') = true := by
 cases x with
 | c a => exact h
 | t i => exact hk i h
theorem fillQ_eqvT (hv : Fix q v) (hs : s < gs) {z : Nat} : ∀ (l : List (Nat × Opd)) (xs : List A) {st : St},(∀ p ∈ l,noView (p.2.v st) = true) → (∀ p ∈ l,s ∉ opdU p.2) →
 stepW.fillQ (st.put' s v) z xs l = (stepW.fillQ st z xs l).map (fun y => (y.1,y.2.put' s v)) ∧ ∀ y st',stepW.fillQ st z xs l = some (y,st') → st'.r = st.r
 | [],xs,st,hn,hl => ⟨rfl,fun y st' h => by cases h; rfl⟩
 | (i,x) :: l,xs,st,hn,hl => by
   have hx : x.v (st.put' s v) = x.v st := opd_put (hl (i,x) (by simp))
   obtain ⟨p1,p2⟩ := pin_eqvT (st := st) hv hs (hn (i,x) (by simp))
   have hl' : ∀ p ∈ l,s ∉ opdU p.2 := fun p hp => hl p (List.mem_cons_of_mem _ hp)
   refine ⟨?_,fun y st' h => ?_⟩
   ·simp only [stepW.fillQ,hx]
    rw [show St.pin (st.put' s v) (x.v st) = _ from p1]
    cases h : St.pin st (x.v st) with
    | none => rfl
    | some r =>
      obtain ⟨u,s1⟩ := r
      simp only [Option.map_some,Option.bind_some]
      split
      ·exact (fillQ_eqvT hv hs l _ (fun p hp => opd_noView (hn p (List.mem_cons_of_mem _ hp)) (p2 _ _ h).2) hl').1
      ·rfl
   ·simp only [stepW.fillQ] at h
    obtain ⟨⟨u,s1⟩,h1,h⟩ := Option.bind_eq_some_iff.1 h
    simp only at h
    split at h
    ·rw [(fillQ_eqvT hv hs l _ (fun p hp => opd_noView (hn p (List.mem_cons_of_mem _ hp)) (p2 _ _ h1).2) hl').2 _ _ h,(p2 _ _ h1).1]
    ·cases h
theorem bsl_eqvT {cf : CF} {io : Nat → List Bool} (hv : Fix q v) (hs : s < gs) {z n : Nat} {zero : A} {ps : List (Nat × Opd)} (hps : ∀ p ∈ ps,s ∉ opdU p.2) (hn : ∀ p ∈ ps,noView (p.2.v st) = true) (hd : d ≠ some s) (hq : ∀ p,q = some p → d ≠ some p) :
 Eqv q s v st (fun st => stepW cf io d st (.bsl z zero n ps)) := by
 have h := fillQ_eqvT hv hs (z := z) ps (List.replicate n zero) hn hps
 constructor
 ·show stepW cf io d (st.put' s v) (.bsl z zero n ps) = (stepW cf io d st (.bsl z zero n ps)).map _
  cases d with
  | none => rfl
  | some d =>
    simp only [stepW,h.1]
    split
    ·cases stepW.fillQ st z (List.replicate n zero) ps with
     | none => rfl
     | some r => simp only [Option.map_some]; rw [put_put' _ hd]
    ·rfl
 ·intro st' he p hp
  have he : stepW cf io d st (.bsl z zero n ps) = some st' := he
  cases d with
  | none => cases he
  | some d =>
    simp only [stepW] at he
    split at he
    ·obtain ⟨⟨xs,s1⟩,h1,he⟩ := Option.map_eq_some_iff.1 he
     cases he
     show s1.r p = st.r p
     rw [h.2 _ _ h1]
    ·cases he
end
end Go.Ab
namespace Go.Ab
section
variable {st st' : St} {cf : CF} {io : Nat → List Bool}
theorem opdU_v {x : Opd} (h : ∀ i ∈ opdU x,st.t i = st'.t i) : x.v st = x.v st' := by
 cases x with
 | t i => exact h i (by simp [opdU])
 | c a => rfl
theorem optU_v {x : Option Opd} (h : ∀ i ∈ optU x,st.t i = st'.t i) : x.map (Opd.v st) = x.map (Opd.v st') := by
 cases x with
 | none => rfl
 | some x => simp [opdU_v (x := x) h]
theorem listU_v : ∀ {xs : List Opd},(∀ i ∈ xs.flatMap opdU,st.t i = st'.t i) → xs.map (Opd.v st) = xs.map (Opd.v st')
 | [],_ => rfl
 | x :: xs,h => by
   rw [List.map_cons,List.map_cons,opdU_v (x := x) fun i hi => h i (by simp [hi]),listU_v (xs := xs) fun i hi => h i (by rw [List.flatMap_cons]; exact List.mem_append_right _ hi)]
theorem fillA_v (hr : st.r = st'.r) : ∀ {ps : List (Nat × Nat × Opd)} {cs : List A},(∀ i ∈ ps.flatMap (fun p => opdU p.2.2),st.t i = st'.t i) → fillA st cs ps = fillA st' cs ps
 | [],_,_ => rfl
 | (off,z,x) :: ps,cs,h => by
   have hx := opdU_v (x := x) fun i hi => h i (by simp [hi])
   simp only [fillA,hx,hr]
   have ih : ∀ cs',fillA st cs' ps = fillA st' cs' ps := fun cs' => fillA_v hr fun i hi => h i (by rw [List.flatMap_cons]; exact List.mem_append_right _ hi)
   simp only [ih]
theorem fillS_v (hr : st.r = st'.r) {z : Nat} : ∀ {ps : List (Nat × Opd)} {cs : List A},(∀ i ∈ ps.flatMap (fun p => opdU p.2),st.t i = st'.t i) → fillS st z cs ps = fillS st' z cs ps
 | [],_,_ => rfl
 | (j,x) :: ps,cs,h => by
   have hx := opdU_v (x := x) fun i hi => h i (by simp [hi])
   have ih : ∀ cs',fillS st z cs' ps = fillS st' z cs' ps := fun cs' => fillS_v hr fun i hi => h i (by rw [List.flatMap_cons]; exact List.mem_append_right _ hi)
   simp only [fillS,hx,ih]
theorem args0_v (hr : st.r = st'.r) : ∀ {xs : List Opd},(∀ i ∈ xs.flatMap opdU,st.t i = st'.t i) → args0 st xs = args0 st' xs
 | [],_ => rfl
 | x :: xs,h => by
   have hx := opdU_v (x := x) fun i hi => h i (by simp [hi])
   have ih := args0_v hr (xs := xs) fun i hi => h i (by rw [List.flatMap_cons]; exact List.mem_append_right _ hi)
   simp only [args0,hx,hr,ih]
theorem evalV_congr (hr : st.r = st'.r) {d : Option Nat} {o : O} (h : ∀ i ∈ uses o,st.t i = st'.t i) : evalV cf io d st o = evalV cf io d st' o := by
 cases o with
 | mv x | asg x | nilck x | un _ x | conv _ x | fa _ x | fld _ _ x | len x | lens x | ext x _ | ld _ x =>
   have hx := opdU_v (x := x) (st := st) (st' := st') h
   simp only [evalV,hx,hr]
 | box | alloc | sto | app => rfl
 | pick c a b =>
   have h1 := opdU_v (x := c) (st := st) (st' := st') fun i hi => h i (by simp [uses,hi])
   have h2 := opdU_v (x := a) (st := st) (st' := st') fun i hi => h i (by simp [uses,hi])
   have h3 := opdU_v (x := b) (st := st) (st' := st') fun i hi => h i (by simp [uses,hi])
   simp only [evalV,h1,h2,h3]
 | build z ps => simp only [evalV,fillA_v hr (ps := ps) h]
 | bsl z zero n ps => simp only [evalV,fillS_v hr (ps := ps) h]
 | bin _ x y | eqs _ _ x y | eqb _ x y | ia _ x y | iaa _ _ x y | ix x y | ixa _ _ _ x y | mks _ _ _ x y =>
   have h1 := opdU_v (x := x) (st := st) (st' := st') fun i hi => h i (by simp [uses,hi])
   have h2 := opdU_v (x := y) (st := st) (st' := st') fun i hi => h i (by simp [uses,hi])
   simp only [evalV,h1,h2,hr]
 | slc _ x lo hi | slcs x lo hi =>
   have h1 := opdU_v (x := x) (st := st) (st' := st') fun i hi => h i (by simp [uses,hi])
   have h2 := optU_v (x := lo) (st := st) (st' := st') fun i hi => h i (by simp [uses,hi])
   have h3 := optU_v (x := hi) (st := st) (st' := st') fun i hi => h i (by simp [uses,hi])
   simp only [evalV,h1,h2,h3,hr]
 | max xs | min xs | mkf _ xs =>
   have h1 := listU_v (xs := xs) (st := st) (st' := st') h
   simp only [evalV,h1,hr]
 | call f args =>
   have h1 := opdU_v (x := f) (st := st) (st' := st') fun i hi => h i (by simp [uses,hi])
   have h2 := listU_v (xs := args) (st := st) (st' := st') fun i hi => h i (by simp only [uses]; exact List.mem_append_right _ hi)
   have h3 := args0_v hr (xs := args) fun i hi => h i (by simp only [uses]; exact List.mem_append_right _ hi)
   simp only [evalV,h1,h2,h3,hr]
def stepG (cf : CF) (io : Nat → List Bool) (all : List Op) (st : St) (o : Op) : Option St :=
 match guardOf all st o.g with
 | some true => step cf io st o
 | some false => some (st.put o.d .undef)
 | none => none
theorem runOps_cons (all : List Op) (o : Op) (l : List Op) (st : St) : runOps cf io all (o :: l) st = (stepG cf io all st o).bind (runOps cf io all l) := by
 simp only [runOps,stepG]
 cases guardOf all st o.g with
 | none => rfl
 | some b => cases b <;> rfl
def guardU (all : List Op) : Option (Nat × Bool) → List Nat
 | none => []
 | some (j,_) => match (all[j]?).bind (·.d) with | some d => [d] | none => []
def resG (cf : CF) (io : Nat → List Bool) (all : List Op) (st : St) (o : Op) : Option A :=
 match guardOf all st o.g with
 | some true => (evalV cf io o.d st o.o).bind fun v => if readOk st o v then some v else none
 | some false => some .undef
 | none => none
theorem stepG_res {all : List Op} {o : Op} (hw : o.w = false) (st : St) : stepG cf io all st o = (resG cf io all st o).map (st.put o.d) := by
 simp only [stepG,resG,step,hw]
 split
 ·simp only [Bool.false_eq_true,if_false]
  cases evalV cf io o.d st o.o with
  | none => rfl
  | some v =>
    simp only [Option.bind_some]
    split <;> rfl
 ·rfl
 ·rfl
theorem guardOf_congr {all : List Op} {g : Option (Nat × Bool)} (h : ∀ i ∈ guardU all g,st.t i = st'.t i) : guardOf all st g = guardOf all st' g := by
 cases g with
 | none => rfl
 | some p =>
   obtain ⟨j,b⟩ := p
   simp only [guardOf]
   simp only [guardU] at h
   cases hd : (all[j]?).bind (·.d) with
   | none => rfl
   | some d => rw [hd] at h; simp only; rw [h d (by simp)]
def flagU (o : Op) : List Nat := if o.av.contains gs then (match o.d with | some s => [s] | none => []) else []
theorem readOk_congr {o : Op} {v : A} (h : ∀ i ∈ uses o.o ++ flagU o,st.t i = st'.t i) : readOk st o v = readOk st' o v := by
 have hu : ∀ k ∈ uses o.o,st.t k = st'.t k := fun k hk => h k (List.mem_append_left _ hk)
 have e1 : ∀ d,((uses o.o).all fun k => staysA (some d) (st.t k)) = (uses o.o).all fun k => staysA (some d) (st'.t k) := fun d => by
  rw [Bool.eq_iff_iff,List.all_eq_true,List.all_eq_true]
  exact ⟨fun e k hk => by rw [← hu k hk]; exact e k hk,fun e k hk => by rw [hu k hk]; exact e k hk⟩
 have e2 : ∀ d ∈ o.av,(if d = gs then (match o.d with | some s => isAny (st.t s) | none => false) else staysA (some d) v && (uses o.o).all fun k => staysA (some d) (st.t k)) = (if d = gs then (match o.d with | some s => isAny (st'.t s) | none => false) else staysA (some d) v && (uses o.o).all fun k => staysA (some d) (st'.t k)) := fun d hd => by
  by_cases hg : d = gs
  ·rw [if_pos hg,if_pos hg]
   cases hs : o.d with
   | none => rfl
   | some s =>
     have : st.t s = st'.t s := h s (List.mem_append_right _ (by
      have hc : o.av.contains gs = true := by rw [← hg]; simpa using hd
      simp only [flagU,hc,if_true,hs,List.mem_singleton]))
     simp only [this]
  ·rw [if_neg hg,if_neg hg,e1]
 have e3 : ∀ l : List Nat,(∀ d ∈ l,d ∈ o.av) → (l.all fun d => if d = gs then (match o.d with | some s => isAny (st.t s) | none => false) else staysA (some d) v && (uses o.o).all fun k => staysA (some d) (st.t k)) = l.all fun d => if d = gs then (match o.d with | some s => isAny (st'.t s) | none => false) else staysA (some d) v && (uses o.o).all fun k => staysA (some d) (st'.t k) := fun l hl => by
  induction l with
  | nil => rfl
  | cons d l ih => rw [List.all_cons,List.all_cons,e2 d (hl d (by simp)),ih fun x hx => hl x (List.mem_cons_of_mem _ hx)]
 have e4 := e3 o.av fun _ h => h
 exact congrArg (fun b => (!o.pq || pure v) && b) e4
theorem resG_congr {all : List Op} {o : Op} (hr : st.r = st'.r) (h : ∀ i ∈ (uses o.o ++ flagU o) ++ guardU all o.g,st.t i = st'.t i) : resG cf io all st o = resG cf io all st' o := by
 have e : ∀ v,readOk st o v = readOk st' o v := fun v => readOk_congr fun i hi => h i (List.mem_append_left _ hi)
 simp only [resG,guardOf_congr (st := st) (st' := st') fun i hi => h i (List.mem_append_right _ hi),evalV_congr (st := st) (st' := st') hr fun i hi => h i (List.mem_append_left _ (List.mem_append_left _ hi)),e]
def apartV (all : List Op) (x y : Op) : Bool :=
 !x.w && !y.w && (match x.d with | some d => !((uses y.o ++ flagU y) ++ guardU all y.g).contains d && y.d != some d | none => true) && (match y.d with | some d => !((uses x.o ++ flagU x) ++ guardU all x.g).contains d | none => true)
def simple : O → Bool
 | .mv _ | .ext _ _ | .bin .. | .un .. | .fld .. | .ix .. | .lens _ => true
 | .ld _ (.t _) | .nilck (.t _) | .fa _ (.t _) | .iaa _ _ (.t _) _ | .ia _ (.t _) _ => true
 | _ => false
def adr : O → Bool
 | .mv (.t _) | .ia _ (.t _) _ | .nilck (.t _) | .fa _ (.t _) | .iaa _ _ (.t _) _ => true
 | _ => false
def wr : O → Bool
 | .call .. | .alloc .. | .sto .. | .asg .. | .bsl .. => true
 | _ => false
def apartW (x y : Op) : Bool :=
 x.av.isEmpty && !x.w && y.w && simple x.o && (x.pq || adr x.o) && wr y.o && x.g.isNone && y.g.isNone &&
  ((uses x.o).all (fun k => y.av.contains k && !(uses y.o).contains k && y.d != some k && decide (k < gs))) &&
  (match x.d with | some s => decide (s < gs) && !(uses y.o).contains s && y.d != some s && !y.av.contains s | none => true)
def apartB (x y : Op) : Bool :=
 (x.av == [gs]) && !x.w && y.w && adr x.o && wr y.o && (match y.o with | .alloc .. => false | .bsl .. => false | _ => true) && x.g.isNone && y.g.isNone &&
   ((uses x.o).all (fun k => y.av.contains k && !(uses y.o).contains k && y.d != some k && decide (k < gs))) &&
   (match x.d with | some s => decide (s < gs) && !(uses y.o).contains s && y.d != some s && y.av.contains s && !(uses x.o).contains s | none => false)
def isAlloc : O → Bool
 | .alloc .. => true
 | _ => false
def simpleA : O → Bool
 | .build _ ps => ps.all fun p => match p.2.2 with | .t _ => true | .c a => pure a
 | o => simple o
def apartA (x y : Op) : Bool :=
 !x.w && y.w && simpleA x.o && isAlloc y.o && x.g.isNone && y.g.isNone && y.av.isEmpty &&
  (match y.d with | some d => x.av.contains d && !(uses x.o).contains d && x.d != some d && d != gs && !x.av.contains gs | none => false)
def apartOps (all : List Op) (x y : Op) : Bool := apartV all x y || ((apartW x y || apartW y x) || ((apartA x y || apartA y x) || (apartB x y || apartB y x)))
theorem put_t (st : St) (d : Option Nat) (v : A) {i : Nat} (h : d ≠ some i) : (st.put d v).t i = st.t i := by
 cases d with
 | none => rfl
 | some d =>
   have : i ≠ d := fun e => h (by rw [e])
   simp [St.put,this]
theorem put_r (st : St) (d : Option Nat) (v : A) : (st.put d v).r = st.r := by cases d <;> rfl
theorem put_comm (st : St) {d e : Option Nat} (v u : A) (h : ∀ i,d = some i → e ≠ some i) : (st.put d v).put e u = (st.put e u).put d v := by
 cases d with
 | none => rfl
 | some d =>
   cases e with
   | none => rfl
   | some e =>
     have hne : d ≠ e := fun x => h d rfl (by rw [x])
     simp only [St.put]
     congr 1
     funext i
     by_cases h1 : i = d
     ·by_cases h2 : i = e
      ·omega
      ·simp [h1,hne]
     ·by_cases h2 : i = e
      ·simp [h2,Ne.symm hne]
      ·simp [h1,h2]
theorem stepG_commV {all : List Op} {x y : Op} (h : apartV all x y = true) {st s1 s2 : St} (h1 : stepG cf io all st x = some s1) (h2 : stepG cf io all s1 y = some s2) :
 ∃ t1,stepG cf io all st y = some t1 ∧ stepG cf io all t1 x = some s2 := by
 simp only [apartV,Bool.and_eq_true,Bool.not_eq_true'] at h
 obtain ⟨⟨⟨hx,hy⟩,hxd⟩,hyd⟩ := h
 rw [stepG_res hx] at h1
 rw [stepG_res hy] at h2
 obtain ⟨v,hv,rfl⟩ := Option.map_eq_some_iff.1 h1
 obtain ⟨u,hu,rfl⟩ := Option.map_eq_some_iff.1 h2
 have e1 : resG cf io all (st.put x.d v) y = resG cf io all st y := resG_congr (put_r _ _ _) fun i hi => put_t _ _ _ fun e => by
  rw [e] at hxd
  simp only [Bool.and_eq_true,Bool.not_eq_true',List.contains_eq_mem,decide_eq_false_iff_not] at hxd
  exact hxd.1 hi
 rw [e1] at hu
 have e2 : resG cf io all (st.put y.d u) x = resG cf io all st x := resG_congr (put_r _ _ _) fun i hi => put_t _ _ _ fun e => by
  rw [e] at hyd
  simp only [Bool.not_eq_true',List.contains_eq_mem,decide_eq_false_iff_not] at hyd
  exact hyd hi
 refine ⟨st.put y.d u,by rw [stepG_res hy,hu]; rfl,?_⟩
 rw [stepG_res hx,e2,hv]
 simp only [Option.map_some]
 rw [put_comm]
 intro i e1 e2
 rw [e2] at hxd
 simp only [Bool.and_eq_true,bne_iff_ne,ne_eq] at hxd
 exact hxd.2 e1
theorem Var.no (d : Option Nat) (st : St) : Var none d st := by constructor <;> (intro p e; cases e)
def VarO (o : O) (q d : Option Nat) (st : St) : Prop := (∀ p,q = some p → d ≠ some p) ∧ ((∃ z zero,o = .alloc z zero) ∨ (∃ z zero n ps,o = .bsl z zero n ps ∧ ∀ p ∈ ps,noView (p.2.v st) = true) ∨ Var q d st)
theorem VarO.no (o : O) (d : Option Nat) (st : St) : VarO o none d st := ⟨fun p e => (by cases e),.inr (.inr (Var.no d st))⟩
theorem staysA_fix {d : Option Nat} {a : A} (h : staysA d a = true) : ∃ q,Fix q a ∧ (∀ p,q = some p → d ≠ some p) ∧ ∀ p i c,(a = .loc p i c ∨ a = .view p i c) → q = some p := by
 unfold staysA at h
 split at h
 ·rename_i p i c
  simp only [bne_iff_ne,ne_eq] at h
  exact ⟨some p,.inr ⟨p,i,c,rfl,.inl rfl⟩,fun p' e => by cases e; exact h,fun p' i' c' e => by rcases e with e | e <;> cases e; rfl⟩
 ·rename_i p i c
  simp only [bne_iff_ne,ne_eq] at h
  exact ⟨some p,.inr ⟨p,i,c,rfl,.inr rfl⟩,fun p' e => by cases e; exact h,fun p' i' c' e => by rcases e with e | e <;> cases e; rfl⟩
 ·rename_i a n1 n2
  exact ⟨none,.inl (.inl h),fun p e => (by cases e),fun p i c e => (e.elim (fun e => absurd e (n1 p i c)) fun e => absurd e (n2 p i c))⟩
theorem staysW_fix {o : O} {d : Option Nat} {a : A} (h : staysW st o d a = true) : ∃ q,Fix q a ∧ Var q d st ∧ (∀ p,q = some p → p ∉ touch st o) ∧ ∀ p i c,(a = .loc p i c ∨ a = .view p i c) → q = some p := by
 unfold staysW at h
 split at h
 ·rename_i p i c
  simp only [Bool.and_eq_true,decide_eq_true_eq,bne_iff_ne,ne_eq,Bool.not_eq_true',List.contains_eq_mem,decide_eq_false_iff_not] at h
  obtain ⟨h1,h2,h3,h4⟩ := h
  refine ⟨some p,.inr ⟨p,i,c,rfl,.inl rfl⟩,⟨fun p' e => by cases e; exact h1,fun p' e => by cases e; exact h2,fun p' e => ?_⟩,fun p' e => by cases e; exact h3,fun p' i' c' e => by rcases e with e | e <;> cases e; rfl⟩
  cases e
  split at h4
  ·rename_i R hR; exact ⟨R,hR,h4⟩
  ·cases h4
 ·exact ⟨none,.inl (.inr rfl),Var.no d st,fun p e => (by cases e),fun p i c e => by rcases e with e | e <;> cases e⟩
 ·rename_i a hn ha
  refine ⟨none,.inl (.inl h),Var.no d st,fun p e => (by cases e),fun p i c e => ?_⟩
  rcases e with rfl | rfl
  ·exact absurd rfl (hn p i c)
  ·simp [pure,pureC] at h
theorem stays_fix {o : O} {d : Option Nat} {k : Nat} (h : stays st o d k = true) : ∃ q,Fix q (st.t k) ∧ VarO o q d st ∧ (∀ p,q = some p → p ∉ touch st o) ∧ ∀ p i c,(st.t k = .loc p i c ∨ st.t k = .view p i c) → q = some p := by
 unfold stays at h
 split at h
 ·rename_i z zero
  obtain ⟨q,h1,h2,h3⟩ := staysA_fix h
  exact ⟨q,h1,⟨h2,.inl ⟨_,_,rfl⟩⟩,fun p _ => by simp [touch],h3⟩
 ·rename_i z zero n ps
  obtain ⟨h,hps⟩ := Bool.and_eq_true_iff.1 h
  obtain ⟨q,h1,h2,h3⟩ := staysA_fix h
  exact ⟨q,h1,⟨h2,.inr (.inl ⟨_,_,_,_,rfl,List.all_eq_true.1 hps⟩)⟩,fun p _ => by simp [touch],h3⟩
 ·obtain ⟨q,h1,h2,h3,h4⟩ := staysW_fix h
  exact ⟨q,h1,⟨h2.ne,.inr (.inr h2)⟩,h3,h4⟩
theorem stays_put {o : O} {d : Option Nat} {k s : Nat} {v : A} (h1 : k ≠ s) (h2 : s ∉ uses o) : stays (st.put' s v) o d k = stays st o d k := by
 have ht : touch (st.put' s v) o = touch st o := by
  cases o with
  | call f args =>
    have e1 := opdU_v (x := f) (st := st.put' s v) (st' := st) fun i hi => put'_ne (fun e => h2 (by simp [uses,← e,hi]))
    have e2 := listU_v (xs := args) (st := st.put' s v) (st' := st) fun i hi => put'_ne (fun e => h2 (by simp only [uses]; exact List.mem_append_right _ (e ▸ hi)))
    simp only [touch,e1,e2,put'_r]
  | sto n a x =>
    have e1 := opdU_v (x := a) (st := st.put' s v) (st' := st) fun i hi => put'_ne (fun e => h2 (by simp [uses,← e,hi]))
    simp only [touch,e1]
  | _ => rfl
 unfold stays
 split
 ·rw [put'_ne h1]
 ·rename_i z zero n ps
  have e : ∀ l : List (Nat × Opd),(∀ p ∈ l,s ∉ opdU p.2) → (l.all fun p => noView (p.2.v (st.put' s v))) = l.all fun p => noView (p.2.v st) := fun l hl => by
   induction l with
   | nil => rfl
   | cons p l ih =>
     rw [List.all_cons,List.all_cons,ih fun x hx => hl x (List.mem_cons_of_mem _ hx),opdU_v (x := p.2) (st := st.put' s v) (st' := st) fun i hi => put'_ne (fun e => hl p (by simp) (e ▸ hi))]
  rw [put'_ne h1,e ps fun p hp hi => h2 (by simp only [uses,List.mem_flatMap]; exact ⟨p,hp,hi⟩)]
 ·unfold staysW
  rw [put'_ne h1,ht]; rfl
theorem wr_eqv {q d : Option Nat} {s : Nat} {v : A} {o : O} (hw : wr o = true) (hv : Fix q v) (hs : s < gs) (hu : s ∉ uses o) (hd : d ≠ some s) (hO : VarO o q d st) (ht : ∀ p,q = some p → p ∉ touch st o) : Eqv q s v st (fun st => stepW cf io d st o) := by
 have hV : (∀ z zero,o ≠ .alloc z zero) → (∀ z zero n ps,o ≠ .bsl z zero n ps) → Var q d st := fun h h' => hO.2.elim (fun ⟨z,zero,e⟩ => absurd e (h z zero)) fun h'' => h''.elim (fun ⟨z,zero,n,ps,e,_⟩ => absurd e (h' z zero n ps)) id
 cases o <;> first
  | (simp [wr] at hw; done)
  | skip
 ·have hV := hV (fun _ _ e => by cases e) (fun _ _ _ _ e => by cases e)
  exact asg_eqv hv hV (opdU_v fun i hi => put'_ne (fun e => hu (by simp [uses,← e,hi]))) hd
 ·exact alloc_eqv hv hO.1 hd
 ·rename_i z zero n ps
  have hps : ∀ p ∈ ps,s ∉ opdU p.2 := fun p hp hi => hu (by simp only [uses,List.mem_flatMap]; exact ⟨p,hp,hi⟩)
  rcases hO.2 with ⟨_,_,e⟩ | ⟨_,_,_,_,e,hn⟩ | hV
  ·cases e
  ·cases e; exact bsl_eqvT hv hs hps hn hd hO.1
  ·exact bsl_eqv hv hs hV hps hd
 ·rename_i n a x
  have hV := hV (fun _ _ e => by cases e) (fun _ _ _ _ e => by cases e)
  refine sto_eqv hv hs hV ?_ ?_ hd ht
  ·exact opdU_v fun i hi => put'_ne (fun e => hu (by simp [uses,← e,hi]))
  ·exact opdU_v fun i hi => put'_ne (fun e => hu (by simp [uses,← e,hi]))
 ·rename_i f args
  have hV := hV (fun _ _ e => by cases e) (fun _ _ _ _ e => by cases e)
  refine call_eqv hv hs hV ?_ ?_ hd ht
  ·exact opdU_v fun i hi => put'_ne (fun e => hu (by simp [uses,← e,hi]))
  ·exact listU_v fun i hi => put'_ne (fun e => hu (by simp only [uses]; exact List.mem_append_right _ (e ▸ hi)))
theorem wr_stay {d : Option Nat} {k : Nat} {o : O} (hw : wr o = true) (hk : stays st o d k = true) (hs : k < gs) (hu : k ∉ uses o) (hd : d ≠ some k) {st1 : St} (h : stepW cf io d st o = some st1) :
 st1.t k = st.t k ∧ ∀ p i c,(st.t k = .loc p i c ∨ st.t k = .view p i c) → st1.r p = st.r p := by
 obtain ⟨q,h1,h2,h3,h4⟩ := stays_fix hk
 have he := wr_eqv (cf := cf) (io := io) hw h1 hs hu hd h2 h3
 have hp := he.put
 rw [put'_self] at hp
 have hp : stepW cf io d st o = (stepW cf io d st o).map (·.put' k (st.t k)) := hp
 rw [h] at hp
 simp only [Option.map_some,Option.some.injEq] at hp
 refine ⟨by rw [hp]; simp [St.put'],fun p i c e => he.keep st1 h p (h4 p i c e)⟩
theorem simple_congr {d : Option Nat} {o : O} (hsm : simple o = true) (h : ∀ k ∈ uses o,st.t k = st'.t k ∧ ∀ p i c,(st.t k = .loc p i c ∨ st.t k = .view p i c) → st.r p = st'.r p) : evalV cf io d st o = evalV cf io d st' o := by
 have hv : ∀ x : Opd,(∀ i ∈ opdU x,i ∈ uses o) → x.v st = x.v st' := fun x hx => opdU_v fun i hi => (h i (hx i hi)).1
 have at_ : ∀ k,k ∈ uses o → Opd.v st (.t k) = st.t k ∧ Opd.v st' (.t k) = st.t k := fun k hk => ⟨rfl,(h k hk).1.symm⟩
 cases o <;> first
  | (simp [simple] at hsm; done)
  | skip
 ·rename_i x; have := hv x (by simp [uses]); simp only [evalV,this]
 ·rename_i n x
  cases x with
  | c a => simp [simple] at hsm
  | t k =>
    obtain ⟨h1,h2⟩ := at_ k (by simp [uses,opdU])
    have h3 := fun p i c e => (h k (by simp [uses,opdU])).2 p i c (.inl e)
    simp only [evalV,h1,h2]
    split
    ·rename_i q i c e; rw [h3 _ _ _ e]
    ·rfl
    ·rfl
 ·rename_i x
  cases x with
  | c a => simp [simple] at hsm
  | t k =>
    obtain ⟨h1,h2⟩ := at_ k (by simp [uses,opdU])
    have h3 := fun p i c e => (h k (by simp [uses,opdU])).2 p i c (.inl e)
    simp only [evalV,h1,h2]
    split
    ·rename_i q i c e; rw [h3 _ _ _ e]
    ·rfl
    ·rfl
    ·rfl
 ·rename_i op x y
  have e1 := hv x fun i hi => by simp [uses,hi]
  have e2 := hv y fun i hi => by simp [uses,hi]
  simp only [evalV,e1,e2]
 ·rename_i op x; have := hv x (by simp [uses]); simp only [evalV,this]
 ·rename_i off x
  cases x with
  | c a => simp [simple] at hsm
  | t k =>
    obtain ⟨h1,h2⟩ := at_ k (by simp [uses,opdU])
    have h3 := fun p i c e => (h k (by simp [uses,opdU])).2 p i c (.inl e)
    simp only [evalV,h1,h2]
    split
    ·rename_i q i c e; rw [h3 _ _ _ e]
    ·rfl
    ·rfl
 ·rename_i off n x; have := hv x (by simp [uses]); simp only [evalV,this]
 ·rename_i z x i
  cases x with
  | c a => simp [simple] at hsm
  | t k =>
    obtain ⟨h1,h2⟩ := at_ k (by simp [uses,opdU])
    have h3 := fun p i c e => (h k (by simp [uses,opdU])).2 p i c (.inr e)
    have e2 := hv i fun i hi => by simp [uses,hi]
    simp only [evalV,h1,h2,e2]
    split
    ·rename_i e; rw [h3 _ _ _ e]
    ·rfl
    ·rfl
 ·rename_i len z x i
  cases x with
  | c a => simp [simple] at hsm
  | t k =>
    obtain ⟨h1,h2⟩ := at_ k (by simp [uses,opdU])
    have h3 := fun p i c e => (h k (by simp [uses,opdU])).2 p i c (.inl e)
    have e2 := hv i fun i hi => by simp [uses,hi]
    simp only [evalV,h1,h2,e2]
    split
    ·rename_i e; rw [h3 _ _ _ e]
    ·rfl
    ·rfl
 ·rename_i x y
  have e1 := hv x fun i hi => by simp [uses,hi]
  have e2 := hv y fun i hi => by simp [uses,hi]
  simp only [evalV,e1,e2]
 ·rename_i x; have := hv x (by simp [uses]); simp only [evalV,this]
 ·rename_i x i; have := hv x (by simp [uses]); simp only [evalV,this]
theorem read_fix {d : Option Nat} {o y : O} {dy : Option Nat} {v : A} (hp : pure v = true ∨ adr o = true) (h : ∀ k ∈ uses o,stays st y dy k = true) (he : evalV cf io d st o = some v) : ∃ q,Fix q v ∧ VarO y q dy st ∧ ∀ p,q = some p → p ∉ touch st y := by
 have no : ∀ u : A,pure u = true → ∃ q,Fix q u ∧ VarO y q dy st ∧ ∀ p,q = some p → p ∉ touch st y := fun u hu => ⟨none,.inl (.inl hu),VarO.no y dy st,fun p e => (by cases e)⟩
 have lc : ∀ (k p i c i' c' : Nat),stays st y dy k = true → (st.t k = .loc p i c ∨ st.t k = .view p i c) → ∃ q,Fix q (.loc p i' c') ∧ VarO y q dy st ∧ ∀ p,q = some p → p ∉ touch st y := fun k p i c i' c' hk e => by
  obtain ⟨q,h1,h2,h3,h4⟩ := stays_fix hk
  exact ⟨q,.inr ⟨p,i',c',h4 _ _ _ e,.inl rfl⟩,h2,h3⟩
 rcases hp with hp | hp
 ·exact no v hp
 ·cases o <;> first
   | (simp [adr] at hp; done)
   | skip
  ·rename_i x
   cases x with
   | c a => simp [adr] at hp
   | t k =>
     have hk := h k (by simp [uses,opdU])
     simp only [evalV,Opd.v] at he
     obtain rfl := Option.some.inj he
     obtain ⟨q,h1,h2,h3,_⟩ := stays_fix hk
     exact ⟨q,h1,h2,h3⟩
  ·rename_i x
   cases x with
   | c a => simp [adr] at hp
   | t k =>
     have hk := h k (by simp [uses,opdU])
     simp only [evalV,Opd.v] at he
     split at he
     ·rename_i p i c e
      obtain ⟨R,_,he⟩ := Option.map_eq_some_iff.1 he
      subst he; exact lc k p i c i c hk (.inl e)
     ·cases he; exact no _ rfl
     ·rename_i f caps e
      cases he
      refine no _ ?_
      unfold stays at hk; rw [e] at hk
      split at hk <;> first | exact hk | exact (Bool.and_eq_true_iff.1 hk).1
     ·cases he
  ·rename_i off x
   cases x with
   | c a => simp [adr] at hp
   | t k =>
     have hk := h k (by simp [uses,opdU])
     simp only [evalV,Opd.v] at he
     split at he
     ·rename_i p i c e
      obtain ⟨R,_,he⟩ := Option.map_eq_some_iff.1 he
      subst he; exact lc k p i c i _ hk (.inl e)
     ·cases he; exact no _ rfl
     ·cases he
  ·rename_i z x i
   cases x with
   | c a => simp [adr] at hp
   | t k =>
     have hk := h k (by simp [uses,opdU])
     simp only [evalV] at he
     split at he
     ·rename_i p j c _ e
      have e : st.t k = .view p j c := e
      obtain ⟨R,_,he⟩ := Option.bind_eq_some_iff.1 he
      split at he
      ·cases he; exact lc k p j c _ _ hk (.inr e)
      ·cases he
     ·split at he
      ·obtain ⟨R,_,he⟩ := Option.map_eq_some_iff.1 he
       subst he; exact no _ rfl
      ·cases he
     ·cases he
  ·rename_i len z x i
   cases x with
   | c a => simp [adr] at hp
   | t k =>
     have hk := h k (by simp [uses,opdU])
     simp only [evalV] at he
     split at he
     ·rename_i p j c _ e
      have e : st.t k = .loc p j c := e
      split at he
      ·obtain ⟨R,_,he⟩ := Option.map_eq_some_iff.1 he
       subst he; exact lc k p j c j _ hk (.inl e)
      ·cases he
     ·split at he
      ·cases he; exact no _ rfl
      ·cases he
     ·cases he
structure RW (x y : Op) : Prop where
 xa : x.av = []
 xw : x.w = false
 yw : y.w = true
 sm : simple x.o = true
 pq : x.pq = true ∨ adr x.o = true
 wr : wr y.o = true
 xg : x.g = none
 yg : y.g = none
 use : ∀ k ∈ uses x.o,k ∈ y.av ∧ k ∉ uses y.o ∧ y.d ≠ some k ∧ k < gs
 dst : ∀ s,x.d = some s → s < gs ∧ s ∉ uses y.o ∧ y.d ≠ some s ∧ s ∉ y.av
theorem apartW_is {x y : Op} (h : apartW x y = true) : RW x y := by
 simp only [apartW,Bool.and_eq_true,List.isEmpty_iff,Bool.not_eq_true',Bool.or_eq_true,Option.isNone_iff_eq_none,List.all_eq_true,List.contains_eq_mem,decide_eq_true_eq,decide_eq_false_iff_not,bne_iff_ne,ne_eq] at h
 obtain ⟨⟨⟨⟨⟨⟨⟨⟨⟨h0,h1⟩,h2⟩,h3⟩,h4⟩,h5⟩,h6⟩,h7⟩,h8⟩,h9⟩ := h
 refine ⟨h0,h1,h2,h3,h4,h5,h6,h7,fun k hk => ?_,fun s hs => ?_⟩
 ·obtain ⟨⟨⟨a,b⟩,c⟩,e⟩ := h8 k hk; exact ⟨a,b,c,e⟩
 ·rw [hs] at h9
  simp only [Bool.and_eq_true,Bool.not_eq_true',decide_eq_true_eq,decide_eq_false_iff_not,bne_iff_ne,ne_eq,List.contains_eq_mem] at h9
  obtain ⟨⟨⟨a,b⟩,c⟩,e⟩ := h9; exact ⟨a,b,c,e⟩
theorem stepG_r' {all : List Op} {x : Op} (hw : x.w = false) (hg : x.g = none) (st : St) : stepG cf io all st x = (evalV cf io x.d st x.o).bind fun v => if readOk st x v then some (st.put x.d v) else none := by
 simp only [stepG,hg,guardOf,step,hw,Bool.false_eq_true,if_false]
theorem stepG_r {all : List Op} {x : Op} (hw : x.w = false) (ha : x.av = []) (hg : x.g = none) (st : St) : stepG cf io all st x = (evalV cf io x.d st x.o).bind fun v => if !x.pq || pure v then some (st.put x.d v) else none := by
 simp only [stepG_r' hw hg,readOk,ha,List.all_nil,Bool.and_true]
theorem stepG_w {all : List Op} {x : Op} (hw : x.w = true) (hg : x.g = none) (st : St) : stepG cf io all st x = if x.av.all (stays st x.o x.d) then stepW cf io x.d st x.o else none := by
 simp only [stepG,hg,guardOf,step,hw,if_true]
theorem rw_read {x y : Op} (h : RW x y) {st st' : St} (hs : y.av.all (stays st y.o y.d) = true) (hst : stepW cf io y.d st y.o = some st') : evalV cf io x.d st x.o = evalV cf io x.d st' x.o := by
 rw [List.all_eq_true] at hs
 refine simple_congr h.sm fun k hk => ?_
 obtain ⟨h1,h2,h3,h4⟩ := h.use k hk
 obtain ⟨e1,e2⟩ := wr_stay h.wr (hs k h1) h4 h2 h3 hst
 exact ⟨e1.symm,fun p i c e => (e2 p i c e).symm⟩
theorem rw_fix {x y : Op} (h : RW x y) {st : St} (hs : y.av.all (stays st y.o y.d) = true) {v : A} (hv : evalV cf io x.d st x.o = some v) (hq : (!x.pq || pure v) = true) : ∃ q,Fix q v ∧ VarO y.o q y.d st ∧ ∀ p,q = some p → p ∉ touch st y.o := by
 rw [List.all_eq_true] at hs
 refine read_fix (o := x.o) ?_ (fun k hk => hs k (h.use k hk).1) hv
 rcases h.pq with e | e
 ·rw [e] at hq; exact .inl (by simpa using hq)
 ·exact .inr e
theorem rw_put {x y : Op} (h : RW x y) {st : St} {s : Nat} (hd : x.d = some s) (hs : y.av.all (stays st y.o y.d) = true) {v : A} (hv : evalV cf io x.d st x.o = some v) (hq : (!x.pq || pure v) = true) :
 stepW cf io y.d (st.put' s v) y.o = (stepW cf io y.d st y.o).map (·.put' s v) := by
 obtain ⟨q,h1,h2,h3⟩ := rw_fix h hs hv hq
 obtain ⟨d1,d2,d3,d4⟩ := h.dst s hd
 exact (wr_eqv (cf := cf) (io := io) h.wr h1 d1 d2 d3 h2 h3).put
theorem rw_all {x y : Op} (h : RW x y) {st : St} {s : Nat} (hd : x.d = some s) (v : A) : y.av.all (stays (st.put' s v) y.o y.d) = y.av.all (stays st y.o y.d) := by
 obtain ⟨d1,d2,d3,d4⟩ := h.dst s hd
 have : ∀ l : List Nat,s ∉ l → l.all (stays (st.put' s v) y.o y.d) = l.all (stays st y.o y.d) := fun l hl => by
  induction l with
  | nil => rfl
  | cons k l ih =>
    simp only [List.mem_cons,not_or] at hl
    rw [List.all_cons,List.all_cons,ih hl.2,stays_put (fun e => hl.1 e.symm) d2]
 exact this _ d4
theorem stepG_comm1 {all : List Op} {x y : Op} (h : RW x y) {st s1 s2 : St} (h1 : stepG cf io all st x = some s1) (h2 : stepG cf io all s1 y = some s2) : ∃ t1,stepG cf io all st y = some t1 ∧ stepG cf io all t1 x = some s2 := by
 rw [stepG_r h.xw h.xa h.xg] at h1
 rw [stepG_w h.yw h.yg] at h2
 obtain ⟨v,hv,h1⟩ := Option.bind_eq_some_iff.1 h1
 split at h1
 ·rename_i hq
  cases h1
  split at h2
  ·rename_i hs
   cases hd : x.d with
   | none =>
     rw [hd] at h2 hs
     have h2 : stepW cf io y.d st y.o = some s2 := h2
     have hs : y.av.all (stays st y.o y.d) = true := hs
     refine ⟨s2,by rw [stepG_w h.yw h.yg,if_pos hs,h2],?_⟩
     rw [stepG_r h.xw h.xa h.xg,← rw_read h hs h2,hv,Option.bind_some,if_pos hq,hd]; rfl
   | some s =>
     rw [hd] at h2 hs
     have h2 : stepW cf io y.d (st.put' s v) y.o = some s2 := h2
     have hs : y.av.all (stays (st.put' s v) y.o y.d) = true := hs
     rw [rw_all h hd] at hs
     rw [rw_put h hd hs hv hq] at h2
     obtain ⟨t1,e1,e2⟩ := Option.map_eq_some_iff.1 h2
     refine ⟨t1,by rw [stepG_w h.yw h.yg,if_pos hs,e1],?_⟩
     rw [stepG_r h.xw h.xa h.xg,← rw_read h hs e1,hv,Option.bind_some,if_pos hq,hd,← e2]; rfl
  ·cases h2
 ·cases h1
theorem stepG_comm2 {all : List Op} {x y : Op} (h : RW y x) {st s1 s2 : St} (h1 : stepG cf io all st x = some s1) (h2 : stepG cf io all s1 y = some s2) : ∃ t1,stepG cf io all st y = some t1 ∧ stepG cf io all t1 x = some s2 := by
 rw [stepG_w h.yw h.yg] at h1
 rw [stepG_r h.xw h.xa h.xg] at h2
 obtain ⟨v,hv,h2⟩ := Option.bind_eq_some_iff.1 h2
 split at h1
 ·rename_i hs
  rw [← rw_read h hs h1] at hv
  split at h2
  ·rename_i hq
   cases h2
   refine ⟨st.put y.d v,by rw [stepG_r h.xw h.xa h.xg,hv,Option.bind_some,if_pos hq],?_⟩
   rw [stepG_w h.yw h.yg]
   cases hd : y.d with
   | none =>
     show (if x.av.all (stays st x.o x.d) then stepW cf io x.d st x.o else none) = _
     rw [if_pos hs,h1]; rfl
   | some s =>
     show (if x.av.all (stays (st.put' s v) x.o x.d) then stepW cf io x.d (st.put' s v) x.o else none) = _
     rw [rw_all h hd,if_pos hs,rw_put h hd hs hv hq,h1]; rfl
  ·cases h2
 ·cases h1
theorem solid_same {r r' : Nat → Option Root} {a : A} (h : ∀ p i c,(a = .loc p i c ∨ a = .view p i c) → r p = r' p) : solid r a = solid r' a := by
 cases a <;> first
  | rfl
  | (rename_i q i c; simp only [solid]; rw [h q i c (by simp)])
theorem solid_pure {r r' : Nat → Option Root} {a : A} (h : pureC a = true) : solid r a = solid r' a := by
 cases a <;> first
  | rfl
  | simp [pureC] at h
theorem cells_pure {r r' : Nat → Option Root} {a : A} (h : pure a = true) : ∀ c ∈ a.cells,solid r c = solid r' c := by
 intro c hc
 cases a <;> first
  | (simp only [A.cells,List.mem_singleton] at hc; subst hc; exact solid_pure h)
  | skip
 rename_i cs
 simp only [pure,List.all_eq_true] at h
 exact solid_pure (h c hc)
theorem cells_stay {r r' : Nat → Option Root} {d : Option Nat} {a : A} (hs : staysA d a = true) (h : ∀ p i c,(a = .loc p i c ∨ a = .view p i c) → r p = r' p) : ∀ c ∈ a.cells,solid r c = solid r' c := by
 unfold staysA at hs
 split at hs
 ·intro c hc
  simp only [A.cells,List.mem_singleton] at hc; subst hc; exact solid_same h
 ·intro c hc
  simp only [A.cells,List.mem_singleton] at hc; subst hc; exact solid_same h
 ·exact cells_pure hs
theorem all_same {r r' : Nat → Option Root} : ∀ {l : List A},(∀ c ∈ l,solid r c = solid r' c) → l.all (solid r) = l.all (solid r')
 | [],_ => rfl
 | a :: l,h => by rw [List.all_cons,List.all_cons,h a (by simp),all_same fun c hc => h c (List.mem_cons_of_mem _ hc)]
theorem fillA_c : ∀ {ps : List (Nat × Nat × Opd)} {cs : List A},(∀ p ∈ ps,p.2.2.v st = p.2.2.v st' ∧ ∀ c ∈ (p.2.2.v st').cells,solid st.r c = solid st'.r c) → fillA st cs ps = fillA st' cs ps
 | [],_,_ => rfl
 | (off,z,x) :: ps,cs,h => by
   obtain ⟨h1,h2⟩ := h (off,z,x) (by simp)
   have ih : ∀ cs',fillA st cs' ps = fillA st' cs' ps := fun cs' => fillA_c fun p hp => h p (List.mem_cons_of_mem _ hp)
   have h1 : x.v st = x.v st' := h1
   have h3 : (x.v st').cells.all (solid st.r) = (x.v st').cells.all (solid st'.r) := all_same h2
   simp only [fillA,h1,h3,ih]
theorem simpleA_congr {d e : Option Nat} {o : O} (hsm : simpleA o = true) (h : ∀ k ∈ uses o,(st.t k = st'.t k ∧ ∀ p i c,(st.t k = .loc p i c ∨ st.t k = .view p i c) → st.r p = st'.r p) ∧ staysA e (st.t k) = true) : evalV cf io d st o = evalV cf io d st' o := by
 by_cases hs : simple o = true
 ·exact simple_congr hs fun k hk => (h k hk).1
 ·cases o <;> first
   | (exact absurd hsm hs)
   | skip
  rename_i zero ps
  simp only [simpleA,List.all_eq_true] at hsm
  simp only [evalV]
  rw [fillA_c fun p hp => ?_]
  cases hx : p.2.2 with
  | c a =>
    have := hsm p hp
    rw [hx] at this
    exact ⟨rfl,cells_pure this⟩
  | t k =>
    have hk := h k (by simp only [uses]; exact List.mem_flatMap.2 ⟨p,hp,by rw [hx]; simp [opdU]⟩)
    have e1 : st.t k = st'.t k := hk.1.1
    refine ⟨e1,?_⟩
    show ∀ c ∈ (st'.t k).cells,_
    rw [← e1]
    exact cells_stay hk.2 hk.1.2
structure RA (x y : Op) (d : Nat) : Prop where
 xw : x.w = false
 yw : y.w = true
 sm : simpleA x.o = true
 al : ∃ z zero,y.o = .alloc z zero
 xg : x.g = none
 yg : y.g = none
 ya : y.av = []
 yd : y.d = some d
 xa : d ∈ x.av
 xu : d ∉ uses x.o
 xd : x.d ≠ some d
 dg : d ≠ gs
 xg' : flagU x = []
theorem apartA_is {x y : Op} (h : apartA x y = true) : ∃ d,RA x y d := by
 simp only [apartA,Bool.and_eq_true,Bool.not_eq_true',Option.isNone_iff_eq_none,List.isEmpty_iff] at h
 obtain ⟨⟨⟨⟨⟨⟨⟨h1,h2⟩,h3⟩,h4⟩,h5⟩,h6⟩,h7⟩,h8⟩ := h
 cases hd : y.d with
 | none => rw [hd] at h8; simp at h8
 | some d =>
   rw [hd] at h8
   simp only [Bool.and_eq_true,Bool.not_eq_true',List.contains_eq_mem,decide_eq_true_eq,decide_eq_false_iff_not,bne_iff_ne,ne_eq] at h8
   obtain ⟨⟨⟨⟨a1,a2⟩,a3⟩,a4⟩,a5⟩ := h8
   refine ⟨d,h1,h2,h3,?_,h5,h6,h7,hd,a1,a2,a3,a4,by simp [flagU,a5]⟩
   cases ho : y.o <;> first
    | (rw [ho] at h4; simp [isAlloc] at h4; done)
    | exact ⟨_,_,rfl⟩
theorem kill_back {d : Nat} {a : A} (h : staysA (some d) (comps (kill1 d) a) = true) : comps (kill1 d) a = a := by
 have one : ∀ b : A,pureC (kill1 d b) = true → kill1 d b = b := fun b hb => by
  unfold kill1 at hb ⊢
  split
  ·rename_i hr; rw [if_pos hr] at hb; simp [pureC] at hb
  ·rfl
 cases a <;> first
  | rfl
  | skip
 all_goals first
  | (simp only [comps,staysA,pure] at h ⊢
     simp only [List.all_eq_true] at h
     congr 1
     exact map_fix fun c hc => one c (h _ (List.mem_map.2 ⟨c,hc,rfl⟩)))
  | (simp [comps,staysA,pure,pureC] at h; done)
  | (simp only [comps,staysA,pure,pureC,List.isEmpty_iff,List.map_eq_nil_iff] at h ⊢
     subst h; rfl)
  | (simp only [comps] at h ⊢
     unfold kill1 at h ⊢
     split
     ·rename_i hr; rw [if_pos hr] at h; simp [staysA,pure,pureC] at h
     ·rfl)
theorem ra_core {x y : Op} {d : Nat} (h : RA x y d) {st s1 : St} (h1 : stepW cf io y.d st y.o = some s1) {v : A} (hv : evalV cf io x.d st x.o = some v ∧ readOk st x v = true ∨ evalV cf io x.d s1 x.o = some v ∧ readOk s1 x v = true) :
 evalV cf io x.d st x.o = some v ∧ readOk st x v = true ∧ evalV cf io x.d s1 x.o = some v ∧ readOk s1 x v = true ∧ stepW cf io y.d (st.put x.d v) y.o = some (s1.put x.d v) := by
 obtain ⟨z,zero,ho⟩ := h.al
 have ht : ∀ k,k ≠ d → s1.t k = comps (kill1 d) (st.t k) := fun k hk => by
  rw [ho,h.yd] at h1
  simp only [stepW] at h1
  split at h1
  ·cases h1; simp [St.put,St.put',St.setRoot,St.kill,St.map,hk]
  ·cases h1
 have hr : ∀ p,p ≠ d → s1.r p = st.r p := fun p hp => by
  rw [ho,h.yd] at h1
  simp only [stepW] at h1
  split at h1
  ·cases h1; simp [St.put,St.put',St.setRoot,St.kill,St.map,hp]
  ·cases h1
 have same : ∀ k ∈ uses x.o,(st.t k = s1.t k ∧ ∀ p i c,(st.t k = .loc p i c ∨ st.t k = .view p i c) → st.r p = s1.r p) ∧ staysA (some d) (st.t k) = true := by
  intro k hk
  have hkd : k ≠ d := fun e => h.xu (e ▸ hk)
  have chk : staysA (some d) (st.t k) = true ∨ staysA (some d) (s1.t k) = true := by
   have get : ∀ s : St,readOk s x v = true → staysA (some d) (s.t k) = true := fun s e => by
    simp only [readOk,Bool.and_eq_true,List.all_eq_true] at e
    have e' := e.2 d h.xa
    rw [if_neg h.dg] at e'
    simp only [Bool.and_eq_true,List.all_eq_true] at e'
    exact e'.2 k hk
   exact hv.imp (fun e => get _ e.2) (fun e => get _ e.2)
  have e : st.t k = s1.t k ∧ staysA (some d) (st.t k) = true := by
   rcases chk with c | c
   ·obtain ⟨q,f1,f2,_⟩ := staysA_fix c
    exact ⟨((ht k hkd).trans (f1.kill fun p hp e => f2 p hp (by rw [e]))).symm,c⟩
   ·rw [ht k hkd] at c ⊢
    have := kill_back c
    exact ⟨this.symm,by rw [this] at c; exact c⟩
  refine ⟨⟨e.1,fun p i c hpc => ?_⟩,e.2⟩
  obtain ⟨q,f1,f2,f3⟩ := staysA_fix e.2
  have hq := f3 p i c hpc
  exact (hr p fun e => f2 p hq (by rw [e])).symm
 have ev := simpleA_congr (cf := cf) (io := io) (d := x.d) h.sm same
 have ro : readOk st x v = readOk s1 x v := readOk_congr fun k hk => (same k (by rw [h.xg',List.append_nil] at hk; exact hk)).1.1
 have hall : evalV cf io x.d st x.o = some v ∧ readOk st x v = true := by
  rcases hv with e | e
  ·exact e
  ·exact ⟨ev.trans e.1,ro.trans e.2⟩
 refine ⟨hall.1,hall.2,ev ▸ hall.1,ro ▸ hall.2,?_⟩
 cases hx : x.d with
 | none => exact h1
 | some s =>
   have hf : staysA (some d) v = true := by
    have e := hall.2
    simp only [readOk,Bool.and_eq_true,List.all_eq_true] at e
    have e' := e.2 d h.xa
    rw [if_neg h.dg] at e'
    simp only [Bool.and_eq_true] at e'
    exact e'.1
   obtain ⟨q,f1,f2,_⟩ := staysA_fix hf
   have hds : (some d : Option Nat) ≠ some s := fun e => h.xd (hx.trans e.symm)
   have hp := (alloc_eqv (cf := cf) (io := io) (d := some d) (s := s) (st := st) f1 f2 (z := z) (zero := zero) hds).put
   rw [ho,h.yd] at h1 ⊢
   show stepW cf io (some d) (st.put' s v) (.alloc z zero) = some (s1.put' s v)
   rw [hp,h1]; rfl
theorem stepG_comm3 {all : List Op} {x y : Op} {d : Nat} (h : RA x y d) {st s1 s2 : St} (h1 : stepG cf io all st x = some s1) (h2 : stepG cf io all s1 y = some s2) : ∃ t1,stepG cf io all st y = some t1 ∧ stepG cf io all t1 x = some s2 := by
 rw [stepG_r' h.xw h.xg] at h1
 rw [stepG_w h.yw h.yg] at h2
 simp only [h.ya,List.all_nil,if_true] at h2
 obtain ⟨v,hv,h1⟩ := Option.bind_eq_some_iff.1 h1
 split at h1
 ·rename_i hq
  cases h1
  have hy : ∃ t1,stepW cf io y.d st y.o = some t1 := by
   obtain ⟨z,zero,ho⟩ := h.al
   rw [ho,h.yd] at h2 ⊢
   simp only [stepW] at h2 ⊢
   split at h2
   ·rename_i hc; rw [if_pos hc]; exact ⟨_,rfl⟩
   ·cases h2
  obtain ⟨t1,ht1⟩ := hy
  obtain ⟨_,_,e1,e2,e3⟩ := ra_core h ht1 (.inl ⟨hv,hq⟩)
  rw [e3] at h2
  cases h2
  refine ⟨t1,?_,?_⟩
  ·rw [stepG_w h.yw h.yg]; simp only [h.ya,List.all_nil,if_true]; exact ht1
  ·rw [stepG_r' h.xw h.xg,e1,Option.bind_some,if_pos e2]
 ·cases h1
theorem stepG_comm4 {all : List Op} {x y : Op} {d : Nat} (h : RA y x d) {st s1 s2 : St} (h1 : stepG cf io all st x = some s1) (h2 : stepG cf io all s1 y = some s2) : ∃ t1,stepG cf io all st y = some t1 ∧ stepG cf io all t1 x = some s2 := by
 rw [stepG_w h.yw h.yg] at h1
 simp only [h.ya,List.all_nil,if_true] at h1
 rw [stepG_r' h.xw h.xg] at h2
 obtain ⟨v,hv,h2⟩ := Option.bind_eq_some_iff.1 h2
 split at h2
 ·rename_i hq
  cases h2
  obtain ⟨e1,e2,_,_,e3⟩ := ra_core h h1 (.inr ⟨hv,hq⟩)
  refine ⟨st.put y.d v,?_,?_⟩
  ·rw [stepG_r' h.xw h.xg,e1,Option.bind_some,if_pos e2]
  ·rw [stepG_w h.yw h.yg]; simp only [h.ya,List.all_nil,if_true]; exact e3
 ·cases h2
structure RB (x y : Op) (s : Nat) : Prop where
 xa : x.av = [gs]
 xw : x.w = false
 yw : y.w = true
 ad : adr x.o = true
 wr : wr y.o = true
 na : (∀ z zero,y.o ≠ .alloc z zero) ∧ ∀ z zero n ps,y.o ≠ .bsl z zero n ps
 xg : x.g = none
 yg : y.g = none
 use : ∀ k ∈ uses x.o,k ∈ y.av ∧ k ∉ uses y.o ∧ y.d ≠ some k ∧ k < gs
 xd : x.d = some s
 sg : s < gs
 su : s ∉ uses y.o
 sy : y.d ≠ some s
 sa : s ∈ y.av
 sx : s ∉ uses x.o
theorem apartB_is {x y : Op} (h : apartB x y = true) : ∃ s,RB x y s := by
 simp only [apartB,Bool.and_eq_true,beq_iff_eq,Bool.not_eq_true',Option.isNone_iff_eq_none,List.all_eq_true,List.contains_eq_mem,decide_eq_true_eq,decide_eq_false_iff_not,bne_iff_ne,ne_eq] at h
 obtain ⟨⟨⟨⟨⟨⟨⟨⟨⟨h0,h1⟩,h2⟩,h3⟩,h4⟩,h5⟩,h6⟩,h7⟩,h8⟩,h9⟩ := h
 cases hd : x.d with
 | none => rw [hd] at h9; simp at h9
 | some s =>
   rw [hd] at h9
   simp only [Bool.and_eq_true,Bool.not_eq_true',List.contains_eq_mem,decide_eq_true_eq,decide_eq_false_iff_not,bne_iff_ne,ne_eq] at h9
   obtain ⟨⟨⟨⟨a1,a2⟩,a3⟩,a4⟩,a5⟩ := h9
   refine ⟨s,h0,h1,h2,h3,h4,⟨fun z zero e => by rw [e] at h5; simp at h5,fun z zero n ps e => by rw [e] at h5; simp at h5⟩,h6,h7,fun k hk => ?_,hd,a1,a2,a3,a4,a5⟩
   obtain ⟨⟨⟨a,b⟩,c⟩,e⟩ := h8 k hk; exact ⟨a,b,c,e⟩
theorem stays_W {o : O} {d : Option Nat} {k : Nat} (hn : (∀ z zero,o ≠ .alloc z zero) ∧ ∀ z zero n ps,o ≠ .bsl z zero n ps) : stays st o d k = staysW st o d (st.t k) := by
 cases o <;> first
  | rfl
  | exact absurd rfl (hn.1 _ _)
  | exact absurd rfl (hn.2 _ _ _ _)
theorem adr_simple {o : O} (h : adr o = true) : simple o = true := by
 unfold adr at h
 split at h <;> first
  | rfl
  | cases h
theorem staysW_pure {o : O} {d : Option Nat} {v : A} (h : pure v = true) : staysW st o d v = true := by
 cases v <;> first
  | exact h
  | simp [pure,pureC] at h
theorem adr_stays {d : Option Nat} {o y : O} {dy : Option Nat} {v : A} (hn : (∀ z zero,y ≠ .alloc z zero) ∧ ∀ z zero n ps,y ≠ .bsl z zero n ps) (hp : adr o = true) (h : ∀ k ∈ uses o,stays st y dy k = true) (he : evalV cf io d st o = some v) : staysW st y dy v = true := by
 have hv : ∀ k,stays st y dy k = true → ¬ ∃ p i c,st.t k = .view p i c := fun k hk ⟨p,i,c,e⟩ => by
  rw [stays_W hn,e] at hk; simp [staysW,pure,pureC] at hk
 cases o <;> first
  | (simp [adr] at hp; done)
  | skip
 ·rename_i x
  cases x with
  | c a => simp [adr] at hp
  | t k =>
    have hk := h k (by simp [uses,opdU])
    simp only [evalV,Opd.v] at he
    obtain rfl := Option.some.inj he
    rw [stays_W hn] at hk; exact hk
 ·rename_i x
  cases x with
  | c a => simp [adr] at hp
  | t k =>
    have hk := h k (by simp [uses,opdU])
    simp only [evalV,Opd.v] at he
    rw [stays_W hn] at hk
    split at he
    ·rename_i p i c e
     obtain ⟨R,_,he⟩ := Option.map_eq_some_iff.1 he
     subst he; rw [e] at hk; exact hk
    ·cases he; exact staysW_pure rfl
    ·rename_i f caps e
     cases he
     rw [e] at hk
     exact staysW_pure hk
    ·cases he
 ·rename_i off x
  cases x with
  | c a => simp [adr] at hp
  | t k =>
    have hk := h k (by simp [uses,opdU])
    simp only [evalV,Opd.v] at he
    rw [stays_W hn] at hk
    split at he
    ·rename_i p i c e
     obtain ⟨R,_,he⟩ := Option.map_eq_some_iff.1 he
     subst he; rw [e] at hk; exact hk
    ·cases he; exact staysW_pure rfl
    ·cases he
 ·rename_i z x i
  cases x with
  | c a => simp [adr] at hp
  | t k =>
    have hk := h k (by simp [uses,opdU])
    simp only [evalV] at he
    split at he
    ·rename_i p j c _ e
     exact absurd ⟨p,j,c,e⟩ (hv k hk)
    ·split at he
     ·obtain ⟨R,_,he⟩ := Option.map_eq_some_iff.1 he
      subst he; exact staysW_pure rfl
     ·cases he
    ·cases he
 ·rename_i len z x i
  cases x with
  | c a => simp [adr] at hp
  | t k =>
    have hk := h k (by simp [uses,opdU])
    simp only [evalV] at he
    rw [stays_W hn] at hk
    split at he
    ·rename_i p j c _ e
     have e : st.t k = .loc p j c := e
     split at he
     ·obtain ⟨R,_,he⟩ := Option.map_eq_some_iff.1 he
      subst he; rw [e] at hk; exact hk
     ·cases he
    ·split at he
     ·cases he; exact staysW_pure rfl
     ·cases he
    ·cases he
theorem readOk_flag {x : Op} {s : Nat} (ha : x.av = [gs]) (hd : x.d = some s) (v : A) : readOk st x v = ((!x.pq || pure v) && isAny (st.t s)) := by
 simp [readOk,ha,hd]
theorem isAny_is {a : A} (h : isAny a = true) : a = .any := by cases a <;> first | rfl | simp [isAny] at h
theorem staysW_put {o : O} {d : Option Nat} {s : Nat} {v a : A} (h2 : s ∉ uses o) : staysW (st.put' s v) o d a = staysW st o d a := by
 have ht : touch (st.put' s v) o = touch st o := by
  cases o with
  | call f args =>
    have e1 := opdU_v (x := f) (st := st.put' s v) (st' := st) fun i hi => put'_ne (fun e => h2 (by simp [uses,← e,hi]))
    have e2 := listU_v (xs := args) (st := st.put' s v) (st' := st) fun i hi => put'_ne (fun e => h2 (by simp only [uses]; exact List.mem_append_right _ (e ▸ hi)))
    simp only [touch,e1,e2,put'_r]
  | sto n a x =>
    have e1 := opdU_v (x := a) (st := st.put' s v) (st' := st) fun i hi => put'_ne (fun e => h2 (by simp [uses,← e,hi]))
    simp only [touch,e1]
  | _ => rfl
 unfold staysW
 rw [ht]; rfl
theorem rb_core {x y : Op} {s : Nat} (h : RB x y s) {st : St} (hs : y.av.all (stays st y.o y.d) = true) {st1 : St} (h1 : stepW cf io y.d st y.o = some st1) :
 evalV cf io x.d st x.o = evalV cf io x.d st1 x.o ∧ st1.t s = st.t s ∧ ∀ v,evalV cf io x.d st x.o = some v →
  y.av.all (stays (st.put' s v) y.o y.d) = true ∧ stepW cf io y.d (st.put' s v) y.o = some (st1.put' s v) := by
 rw [List.all_eq_true] at hs
 have hstay : ∀ k ∈ y.av,k ∉ uses y.o → y.d ≠ some k → k < gs → st1.t k = st.t k ∧ ∀ p i c,(st.t k = .loc p i c ∨ st.t k = .view p i c) → st1.r p = st.r p := fun k hk a b c => wr_stay h.wr (hs k hk) c a b h1
 refine ⟨simple_congr (adr_simple h.ad) fun k hk => ?_,(hstay s h.sa h.su h.sy h.sg).1,fun v hv => ⟨?_,?_⟩⟩
 ·obtain ⟨a,b,c,e⟩ := h.use k hk
  have := hstay k a b c e
  exact ⟨this.1.symm,fun p i c' hh => (this.2 p i c' hh).symm⟩
 ·rw [List.all_eq_true]
  intro k hk
  by_cases hks : k = s
  ·subst hks
   rw [stays_W h.na]
   have e : (st.put' k v).t k = v := by simp [St.put']
   rw [e,staysW_put h.su]
   exact adr_stays h.na h.ad (fun j hj => hs j (h.use j hj).1) hv
  ·rw [stays_put hks h.su]; exact hs k hk
 ·obtain ⟨q,f1,f2,f3⟩ := read_fix (o := x.o) (.inr h.ad) (fun k hk => hs k (h.use k hk).1) hv
  rw [(wr_eqv (cf := cf) (io := io) h.wr f1 h.sg h.su h.sy f2 f3).put,h1]; rfl
theorem stepG_comm5 {all : List Op} {x y : Op} {s : Nat} (h : RB x y s) {st s1 s2 : St} (h1 : stepG cf io all st x = some s1) (h2 : stepG cf io all s1 y = some s2) : ∃ t1,stepG cf io all st y = some t1 ∧ stepG cf io all t1 x = some s2 := by
 rw [stepG_r' h.xw h.xg] at h1
 rw [stepG_w h.yw h.yg] at h2
 obtain ⟨v,hv,h1⟩ := Option.bind_eq_some_iff.1 h1
 split at h1
 ·rename_i hq
  cases h1
  rw [h.xd] at h2
  split at h2
  ·rename_i hs
   have h2 : stepW cf io y.d (st.put' s v) y.o = some s2 := h2
   have hs : y.av.all (stays (st.put' s v) y.o y.d) = true := hs
   have hq' := hq
   rw [readOk_flag h.xa h.xd,Bool.and_eq_true] at hq'
   have hany := isAny_is hq'.2
   have hs0 : y.av.all (stays st y.o y.d) = true := by
    rw [List.all_eq_true] at hs ⊢
    intro k hk
    by_cases hks : k = s
    ·subst hks; rw [stays_W h.na,hany]; rfl
    ·rw [← stays_put (v := v) hks h.su]; exact hs k hk
   have hy : ∃ t1,stepW cf io y.d st y.o = some t1 := by
    have hs0' := hs0
    rw [List.all_eq_true] at hs0'
    obtain ⟨q,f1,f2,f3⟩ := read_fix (cf := cf) (io := io) (o := x.o) (.inr h.ad) (fun k hk => hs0' k (h.use k hk).1) hv
    have := (wr_eqv (cf := cf) (io := io) h.wr f1 h.sg h.su h.sy f2 f3).put
    have h2' := this.symm.trans h2
    obtain ⟨t1,e1,_⟩ := Option.map_eq_some_iff.1 h2'
    exact ⟨t1,e1⟩
   obtain ⟨t1,ht1⟩ := hy
   obtain ⟨c1,c2,c3⟩ := rb_core h hs0 ht1
   obtain ⟨_,c4⟩ := c3 v hv
   rw [c4] at h2
   cases h2
   refine ⟨t1,by rw [stepG_w h.yw h.yg,if_pos hs0,ht1],?_⟩
   rw [stepG_r' h.xw h.xg,← c1,hv,Option.bind_some]
   have hq2 : readOk t1 x v = true := by rw [readOk_flag h.xa h.xd,Bool.and_eq_true,c2]; exact hq'
   rw [if_pos hq2,h.xd]; rfl
  ·cases h2
 ·cases h1
theorem stepG_comm6 {all : List Op} {x y : Op} {s : Nat} (h : RB y x s) {st s1 s2 : St} (h1 : stepG cf io all st x = some s1) (h2 : stepG cf io all s1 y = some s2) : ∃ t1,stepG cf io all st y = some t1 ∧ stepG cf io all t1 x = some s2 := by
 rw [stepG_w h.yw h.yg] at h1
 rw [stepG_r' h.xw h.xg] at h2
 obtain ⟨v,hv,h2⟩ := Option.bind_eq_some_iff.1 h2
 split at h1
 ·rename_i hs
  split at h2
  ·rename_i hq
   cases h2
   obtain ⟨c1,c2,c3⟩ := rb_core h hs h1
   have hv' : evalV cf io y.d st y.o = some v := c1.trans hv
   obtain ⟨c4,c5⟩ := c3 v hv'
   rw [readOk_flag h.xa h.xd,Bool.and_eq_true,c2] at hq
   refine ⟨st.put y.d v,?_,?_⟩
   ·have hq2 : readOk st y v = true := by rw [readOk_flag h.xa h.xd,Bool.and_eq_true]; exact hq
    rw [stepG_r' h.xw h.xg,hv',Option.bind_some,if_pos hq2]
   ·rw [h.xd]
    show stepG cf io all (st.put' s v) x = some (s1.put' s v)
    rw [stepG_w h.yw h.yg,if_pos c4,c5]
  ·cases h2
 ·cases h1
theorem stepG_comm {all : List Op} {x y : Op} (h : apartOps all x y = true) {st s1 s2 : St} (h1 : stepG cf io all st x = some s1) (h2 : stepG cf io all s1 y = some s2) :
 ∃ t1,stepG cf io all st y = some t1 ∧ stepG cf io all t1 x = some s2 := by
 simp only [apartOps,Bool.or_eq_true] at h
 rcases h with h | (h | h) | (h | h) | h | h
 ·exact stepG_commV h h1 h2
 ·exact stepG_comm1 (apartW_is h) h1 h2
 ·exact stepG_comm2 (apartW_is h) h1 h2
 ·obtain ⟨d,h⟩ := apartA_is h; exact stepG_comm3 h h1 h2
 ·obtain ⟨d,h⟩ := apartA_is h; exact stepG_comm4 h h1 h2
 ·obtain ⟨s,h⟩ := apartB_is h; exact stepG_comm5 h h1 h2
 ·obtain ⟨s,h⟩ := apartB_is h; exact stepG_comm6 h h1 h2
def stepI (cf : CF) (io : Nat → List Bool) (all : List Op) (st : St) (i : Nat) : Option St :=
 match all[i]? with
 | some x => stepG cf io all st x
 | none => some st
def runI (cf : CF) (io : Nat → List Bool) (all : List Op) : List Nat → St → Option St
 | [],st => some st
 | i :: l,st => (stepI cf io all st i).bind (runI cf io all l)
theorem runOps_runI (all : List Op) : ∀ (l pre : List Op) (st : St),all = pre ++ l → runOps cf io all l st = runI cf io all (List.range' pre.length l.length) st
 | [],pre,st,_ => by simp [runOps,runI]
 | o :: l,pre,st,he => by
   rw [runOps_cons,List.length_cons,List.range'_succ,runI]
   have hi : all[pre.length]? = some o := by rw [he]; simp
   simp only [stepI,hi]
   cases hs : stepG cf io all st o with
   | none => rfl
   | some s =>
     have := runOps_runI all l (pre ++ [o]) s (by rw [he]; simp)
     simpa using this
theorem stepI_comm {all : List Op} {i j : Nat} (h : ∀ x y,all[j]? = some x → all[i]? = some y → apartOps all x y = true) {st s1 s2 : St} (h1 : stepI cf io all st j = some s1) (h2 : stepI cf io all s1 i = some s2) :
 ∃ t1,stepI cf io all st i = some t1 ∧ stepI cf io all t1 j = some s2 := by
 unfold stepI at *
 cases hj : all[j]? with
 | none =>
   simp only [hj,Option.some.injEq] at h1 ⊢; subst h1
   exact ⟨s2,h2,rfl⟩
 | some x =>
   simp only [hj] at h1 ⊢
   cases hi : all[i]? with
   | none =>
     simp only [hi,Option.some.injEq] at h2 ⊢; subst h2
     exact ⟨st,rfl,h1⟩
   | some y =>
     simp only [hi] at h2 ⊢
     exact stepG_comm (h x y hj hi) h1 h2
theorem runI_first {all : List Op} {i : Nat} {post : List Nat} {stf : St} : ∀ {pre : List Nat} {st : St},(∀ j ∈ pre,∀ x y,all[j]? = some x → all[i]? = some y → apartOps all x y = true) → runI cf io all (pre ++ i :: post) st = some stf →
 ∃ s1,stepI cf io all st i = some s1 ∧ runI cf io all (pre ++ post) s1 = some stf
 | [],st,_,h => by
   simp only [List.nil_append,runI] at h ⊢
   exact Option.bind_eq_some_iff.1 h
 | j :: pre,st,ha,h => by
   simp only [List.cons_append,runI] at h
   obtain ⟨sj,hj,h⟩ := Option.bind_eq_some_iff.1 h
   obtain ⟨s1,h1,h2⟩ := runI_first (fun k hk => ha k (List.mem_cons_of_mem _ hk)) h
   obtain ⟨t1,h3,h4⟩ := stepI_comm (ha j (List.mem_cons_self ..)) hj h1
   exact ⟨t1,h3,by simp only [List.cons_append,runI,h4,Option.bind_some]; exact h2⟩
end
section
variable {P : Program} {φ : Nat → Nat} {w0 : World} {L : Lent} {E E' : Env} {st st' : St} {w w' : World} {a : Act} {cf : CF} {io : Nat → List Bool}
def chkOp (P : Program) (φ : Nat → Nat) (n : Nat) (lp : List Bool) (o : Oper) (x : Op) : Bool :=
 o.dst == x.d && o.guard == x.g && chkO P φ o.op x.o && (match o.dst with | some d => decide (d < n) && !((lp[d]?).getD false) | none => true)
def chkOps (P : Program) (φ : Nat → Nat) (n : Nat) (lp : List Bool) : List Oper → List Op → Bool
 | [],[] => true
 | o :: os,x :: xs => chkOp P φ n lp o x && chkOps P φ n lp os xs
 | _,_ => false
theorem chkOps_len {n : Nat} {lp : List Bool} : ∀ {os : List Oper} {xs : List Op},chkOps P φ n lp os xs = true → os.length = xs.length
 | [],[],_ => rfl
 | o :: os,x :: xs,h => by simp only [chkOps,Bool.and_eq_true] at h; simp [chkOps_len h.2]
 | [],_ :: _,h => by simp [chkOps] at h
 | _ :: _,[],h => by simp [chkOps] at h
theorem chkOps_at {n : Nat} {lp : List Bool} : ∀ {os : List Oper} {xs : List Op},chkOps P φ n lp os xs = true → ∀ {i : Nat} {o : Oper},os[i]? = some o → ∃ x,xs[i]? = some x ∧ chkOp P φ n lp o x = true
 | [],[],_,i,o,h => by simp at h
 | o :: os,x :: xs,h,0,o',hi => by
   simp only [chkOps,Bool.and_eq_true] at h
   simp at hi; subst hi
   exact ⟨x,rfl,h.1⟩
 | o :: os,x :: xs,h,i + 1,o',hi => by
   simp only [chkOps,Bool.and_eq_true] at h
   obtain ⟨y,hy,hc⟩ := chkOps_at h.2 (i := i) (by simpa using hi)
   exact ⟨y,by simpa using hy,hc⟩
 | [],_ :: _,h,_,_,_ => by simp [chkOps] at h
 | _ :: _,[],h,_,_,_ => by simp [chkOps] at h
theorem guard_ok {n : Nat} {lp : List Bool} {ops : Array Oper} {all : List Op} (hops : chkOps P φ n lp ops.toList all = true) (h : Sim φ w0 L E st a w) {o : Oper} {b : Bool} (hg : guardOf all st o.guard = some b) : Region.wanted o (yielded ops a.tmps) = b := by
 unfold guardOf at hg
 unfold Region.wanted
 split at hg
 ·rename_i hgn
  rw [hgn]; simpa using hg
 ·rename_i j want hgs
  rw [hgs]
  simp only
  split at hg
  ·rename_i d hd
   have hdst : (ops[j]?).bind (·.dst) = some d := by
    obtain ⟨x,hx,hxd⟩ := Option.bind_eq_some_iff.1 hd
    have hl := chkOps_len hops
    have hj : j < ops.toList.length := by
     rw [hl]
     rcases Nat.lt_or_ge j all.length with h' | h'
     ·exact h'
     ·simp [List.getElem?_eq_none h'] at hx
    obtain ⟨y,hy,hc⟩ := chkOps_at hops (i := j) (o := ops.toList[j]) (by simp)
    rw [hx] at hy; cases hy
    simp only [chkOp,Bool.and_eq_true,beq_iff_eq] at hc
    have : ops[j]? = some ops.toList[j] := by
     rw [← Array.getElem?_toList]; simp
    rw [this]
    simp only [Option.bind_some]
    rw [hc.1.1.1]; exact hxd
   have hs := h.slots d
   unfold yielded
   rw [hdst]
   simp only [Option.bind_some]
   split at hg
   ·rename_i c hc
    rw [hc] at hs
    have hv := hs.bool_inv
    simp only [Act.eval] at hv
    simp only [Option.some.injEq] at hg
    have : a.tmps[d]? = some (.bool c) := by
     rw [Array.getD_eq_getD_getElem?] at hv
     cases ht : a.tmps[d]? with
     | none => rw [ht] at hv; simp [undef] at hv
     | some u => rw [ht] at hv; simp at hv; rw [hv]
    rw [this]
    simp only
    rw [← hg]
    cases c <;> cases want <;> rfl
   ·rename_i hc
    rw [hc] at hs
    have hv := hs.undef_inv
    simp only [Act.eval] at hv
    simp only [Option.some.injEq] at hg
    rw [← hg]
    cases ht : a.tmps[d]? with
    | none => rfl
    | some u =>
      rw [Array.getD_eq_getD_getElem?,ht] at hv
      simp at hv
      subst hv
      rfl
   ·cases hg
  ·cases hg
theorem noTk_undef {v : Value} (k b : Nat) : ¬ Tk v .undef k b := by
 intro h; cases h with
 | one _ _ _ _ h => cases h
theorem put_size (a : Act) (d : Option Tmp) (v : Value) : (a.put d v).tmps.size = a.tmps.size := by cases d <;> simp [Act.put]
theorem op_sound (hcf : CfG P φ w0 L cf) {lp : List Bool} (hlp : ∀ i p,L.pl i = some p → (lp[i]?).getD false = true) {n : Nat} {ops : Array Oper} {all : List Op} (hops : chkOps P φ n lp ops.toList all = true) (h : Sim φ w0 L E st a w) (hn : a.tmps.size = n) {i : Nat} {st1 : St} (hs : stepI cf io all st i = some st1)
 {K : Act → World → Prop} {Q : Exit → Act → World → Prop} (hK : ∀ E' a' w',Sim φ w0 L E' st1 a' w' → a'.tmps.size = n → K a' w') : wpOp P ops Q i K a w := by
 unfold wpOp
 cases ho : ops[i]? with
 | none =>
   have hl := chkOps_len hops
   have : all[i]? = none := by
    rw [List.getElem?_eq_none_iff,← hl]
    simpa using ho
   simp only [stepI,this,Option.some.injEq] at hs
   subst hs
   exact hK E a w h hn
 | some o =>
   obtain ⟨x,hx,hc⟩ := chkOps_at hops (i := i) (o := o) (by rw [Array.getElem?_toList]; exact ho)
   simp only [stepI,hx] at hs
   simp only [chkOp,Bool.and_eq_true,beq_iff_eq] at hc
   obtain ⟨⟨⟨hd,hg⟩,hco⟩,hdn⟩ := hc
   have hdn' : ∀ j,o.dst = some j → j < a.tmps.size := fun j hj => by rw [hj] at hdn; rw [hn]; simp at hdn; exact hdn.1
   have hdl : ∀ j,o.dst = some j → L.pl j = none := fun j hj => by
    rw [hj] at hdn
    cases hpl : L.pl j with
    | none => rfl
    | some p => have := hlp j p hpl; simp [this] at hdn
   simp only
   unfold stepG at hs
   rw [← hg] at hs
   split at hs
   ·rename_i hgt
    rw [guard_ok hops h hgt]
    simp only [if_true]
    refine .inl ?_
    unfold step at hs
    split at hs
    ·split at hs
     ·rw [← hd] at hs
      exact stepW_sound hcf h hco hdn' hdl hs fun E' v w' hS => hK E' _ w' hS ((put_size a o.dst v).trans hn)
     ·cases hs
    ·obtain ⟨r,hr,hs⟩ := Option.bind_eq_some_iff.1 hs
     split at hs
     rotate_left
     ·cases hs
     cases hs
     rw [← hd] at hr hK
     exact evalV_sound hcf h hco hdn' hr fun E' v w' hS => hK E' _ w' hS ((put_size a o.dst v).trans hn)
   ·rename_i hgf
    simp only [Option.some.injEq] at hs; subst hs
    rw [guard_ok hops h hgf]
    simp only [Bool.false_eq_true,if_false]
    rw [← hd] at hK
    exact hK E _ w (h.put' hdn' (.one _ _ .undef) ((Copy.scalar noTk_undef).tok h)) ((put_size a o.dst undef).trans hn)
   ·cases hs
theorem seq_sound (hcf : CfG P φ w0 L cf) {lp : List Bool} (hlp : ∀ i p,L.pl i = some p → (lp[i]?).getD false = true) {n : Nat} {ops : Array Oper} {all : List Op} (hops : chkOps P φ n lp ops.toList all = true) {Q : Exit → Act → World → Prop} {stf : St} (hQ : ∀ E' a' w',Sim φ w0 L E' stf a' w' → a'.tmps.size = n → Q .normal a' w') :
 ∀ {l : List Nat} {E : Env} {st : St} {a : Act} {w : World},Sim φ w0 L E st a w → a.tmps.size = n → runI cf io all l st = some stf → wpOps P ops Q l a w
 | [],E,st,a,w,h,hn,hs => by
   simp [runI] at hs; subst hs
   exact hQ E a w h hn
 | i :: l,E,st,a,w,h,hn,hs => by
   rw [wpOps_cons]
   simp only [runI] at hs
   obtain ⟨s,h1,h2⟩ := Option.bind_eq_some_iff.1 hs
   exact op_sound hcf hlp hops h hn h1 fun E' a' w' hS hn' => seq_sound hcf hlp hops hQ hS hn' h2
def depsOf (o : Oper) : List Nat := (o.after.toList.filter (Region.binds .any)).map (·.on)
def closure : List (List Nat) → List (List Nat) → List (List Nat)
 | [],acc => acc
 | ds :: l,acc => closure l (acc ++ [(ds ++ ds.flatMap fun k => (acc[k]?).getD []).eraseDups])
def chkTab (deps tab : List (List Nat)) : Bool :=
 (List.range tab.length).all fun i => ((tab[i]?).getD []).all fun j => ((deps[i]?).getD []).any fun k => k == j || (decide (k < i) && ((tab[k]?).getD []).contains j)
def chkPairs (all : List Op) (tab : List (List Nat)) : Bool :=
 (List.range all.length).all fun i => (List.range i).all fun j => ((tab[i]?).getD []).contains j || (match all[j]?,all[i]? with | some x,some y => apartOps all x y | _,_ => true)
def chkBack (deps : List (List Nat)) : Bool := (List.range deps.length).all fun i => ((deps[i]?).getD []).all fun k => decide (k < i)
def chkDraw (ops : List Oper) (all : List Op) : Bool :=
 chkBack (ops.map depsOf) && chkTab (ops.map depsOf) (closure (ops.map depsOf) []) && chkPairs all (closure (ops.map depsOf) [])
theorem tab_ok {deps tab : List (List Nat)} (h : chkTab deps tab = true) {p : Nat → Prop} (hcl : ∀ k,p k → ∀ j ∈ (deps[k]?).getD [],p j) :
 ∀ (n i : Nat),i < n → (∀ j ∈ (deps[i]?).getD [],p j) → ∀ j ∈ (tab[i]?).getD [],p j := by
 intro n
 induction n with
 | zero => intro i hi; omega
 | succ n ih =>
   intro i hi hd j hj
   have hil : i < tab.length := by
    rcases Nat.lt_or_ge i tab.length with h' | h'
    ·exact h'
    ·simp [List.getElem?_eq_none h'] at hj
   have h1 := List.all_eq_true.1 (List.all_eq_true.1 h i (List.mem_range.2 hil)) j hj
   obtain ⟨k,hk,hc⟩ := List.any_eq_true.1 h1
   simp only [Bool.or_eq_true,beq_iff_eq,Bool.and_eq_true,decide_eq_true_eq,List.contains_eq_mem] at hc
   rcases hc with rfl | ⟨hlt,hm⟩
   ·exact hd _ hk
   ·exact ih k (by omega) (hcl k (hd k hk)) j hm
theorem ready_deps {ops : Array Oper} {listed : Array Bool} {i : Nat} (h : i ∈ Region.ready .any ops listed) : listed.getD i true = false ∧ i < ops.size ∧ ∀ j ∈ (((ops.toList.map depsOf)[i]?).getD []),listed.getD j false = true := by
 obtain ⟨h0,o,ho,hall⟩ := mem_ready.1 h
 refine ⟨h0,(Array.getElem?_eq_some_iff.1 ho).1,fun j hj => ?_⟩
 have : (ops.toList.map depsOf)[i]? = some (depsOf o) := by
  rw [List.getElem?_map,Array.getElem?_toList,ho]; rfl
 rw [this] at hj
 simp only [Option.getD_some,depsOf,List.mem_map,List.mem_filter] at hj
 obtain ⟨e,⟨he,hb⟩,rfl⟩ := hj
 exact hall e (by simpa using he) hb
theorem any_sound (hcf : CfG P φ w0 L cf) {lp : List Bool} (hlp : ∀ i p,L.pl i = some p → (lp[i]?).getD false = true) {n : Nat} {ops : Array Oper} {all : List Op} (hops : chkOps P φ n lp ops.toList all = true) (hdr : chkDraw ops.toList all = true) {Q : Exit → Act → World → Prop} {stf : St}
 (hQ : ∀ E' a' w',Sim φ w0 L E' stf a' w' → a'.tmps.size = n → Q .normal a' w') :
 ∀ (fuel : Nat) {rem : List Nat} {listed : Array Bool} {E : Env} {st : St} {a : Act} {w : World},rem.length ≤ fuel → rem.Pairwise (· < ·) → listed.size = ops.size → (∀ i,i ∈ rem ↔ i < ops.size ∧ listed.getD i true = false) →
   (∀ k,listed.getD k false = true → ∀ j ∈ (((ops.toList.map depsOf)[k]?).getD []),listed.getD j false = true) →
   Sim φ w0 L E st a w → a.tmps.size = n → runI cf io all rem st = some stf → wpAny P .any ops Q fuel listed a w := by
 simp only [chkDraw,Bool.and_eq_true] at hdr
 obtain ⟨⟨hbk,htab⟩,hpr⟩ := hdr
 have hl := chkOps_len hops
 simp only [Array.length_toList] at hl
 intro fuel
 induction fuel with
 | zero =>
   intro rem listed E st a w hlen hsorted hsz hrem hcl h hn hs
   obtain rfl : rem = [] := List.eq_nil_of_length_eq_zero (by omega)
   simp [runI] at hs; subst hs
   refine ⟨?_,hQ E a w h hn⟩
   cases hr : Region.ready .any ops listed with
   | nil => rfl
   | cons i l =>
     have := ready_deps (i := i) (listed := listed) (ops := ops) (by rw [hr]; simp)
     have := (hrem i).2 ⟨this.2.1,this.1⟩
     cases this
 | succ fuel ih =>
   intro rem listed E st a w hlen hsorted hsz hrem hcl h hn hs
   refine ⟨fun hr => ?_,fun i hi => ?_⟩
   ·
    cases rem with
    | nil => simp [runI] at hs; subst hs; exact hQ E a w h hn
    | cons i l =>
      exfalso
      have hi := (hrem i).1 (by simp)
      have : i ∈ Region.ready .any ops listed := by
       have ho : ops[i]? = some ops[i] := by simp [hi.1]
       refine mem_ready.2 ⟨hi.2,ops[i],ho,fun e he hb => ?_⟩
       have hm : e.on ∈ (((ops.toList.map depsOf)[i]?).getD []) := by
        have : (ops.toList.map depsOf)[i]? = some (depsOf ops[i]) := by rw [List.getElem?_map,Array.getElem?_toList,ho]; rfl
        rw [this]
        simp only [Option.getD_some,depsOf,List.mem_map,List.mem_filter]
        exact ⟨e,⟨by simpa using he,hb⟩,rfl⟩
       have hlt : e.on < i := by
        have h1 := List.all_eq_true.1 hbk i (List.mem_range.2 (by simp [hi.1]))
        have h2 := List.all_eq_true.1 h1 _ hm
        simpa using h2
       have hnr : e.on ∉ i :: l := by
        intro hm2
        rcases List.mem_cons.1 hm2 with h3 | h3
        ·omega
        ·have := (List.pairwise_cons.1 hsorted).1 _ h3; omega
       have h4 : ¬ (listed.getD e.on true = false) := fun h5 => hnr ((hrem e.on).2 ⟨by omega,h5⟩)
       have h5 : e.on < listed.size := by rw [hsz]; omega
       rw [Array.getD_eq_getD_getElem?] at h4 ⊢
       simp [h5] at h4 ⊢
       exact h4
      rw [hr] at this; cases this
   ·obtain ⟨hun,hisz,hdeps⟩ := ready_deps hi
    have hirem := (hrem i).2 ⟨hisz,hun⟩
    obtain ⟨pre,post,rfl⟩ := List.append_of_mem hirem
    have hprelt : ∀ j ∈ pre,j < i := fun j hj => (List.pairwise_append.1 hsorted).2.2 j hj i (by simp)
    have hap : ∀ j ∈ pre,∀ x y,all[j]? = some x → all[i]? = some y → apartOps all x y = true := by
     intro j hj x y hx hy
     have hjr := (hrem j).1 (by simp [hj])
     have h1 := List.all_eq_true.1 (List.all_eq_true.1 hpr i (List.mem_range.2 (by omega))) j (List.mem_range.2 (hprelt j hj))
     simp only [hx,hy,Bool.or_eq_true] at h1
     rcases h1 with h1 | h1
     ·exfalso
      simp only [List.contains_eq_mem,decide_eq_true_eq] at h1
      have h2 := tab_ok htab (p := fun k => listed.getD k false = true) hcl (i + 1) i (by omega) hdeps j h1
      have h3 := hjr.2
      have h5 : j < listed.size := by rw [hsz]; omega
      rw [Array.getD_eq_getD_getElem?] at h2 h3
      simp [h5] at h2 h3
      rw [h2] at h3; cases h3
     ·exact h1
    obtain ⟨s1,hs1,hs2⟩ := runI_first hap hs
    refine op_sound hcf hlp hops h hn hs1 fun E' a' w' hS hn' => ?_
    have hnd : i ∉ pre ∧ i ∉ post := by
     constructor
     ·intro hm; have := hprelt i hm; omega
     ·intro hm
      have := (List.pairwise_cons.1 (List.pairwise_append.1 hsorted).2.1).1 i hm; omega
    refine ih (rem := pre ++ post) (by simp at hlen ⊢; omega) ?_ (by simpa using hsz) (fun j => ?_) (fun k hk j hj => ?_) hS hn' hs2
    ·obtain ⟨p1,p2,p3⟩ := List.pairwise_append.1 hsorted
     exact List.pairwise_append.2 ⟨p1,(List.pairwise_cons.1 p2).2,fun x hx y hy => p3 x hx y (List.mem_cons_of_mem _ hy)⟩
    ·by_cases e : j = i
     ·subst e
      have h5 : j < listed.size := by rw [hsz]; exact hisz
      constructor
      ·intro hm
       rcases List.mem_append.1 hm with hm | hm
       ·exact absurd hm hnd.1
       ·exact absurd hm hnd.2
      ·rintro ⟨_,hm⟩
       rw [Array.getD_eq_getD_getElem?] at hm
       simp [h5] at hm
     ·rw [getD_set_ne true (Ne.symm e),← hrem j]
      simp [e]
    ·by_cases e : k = i
     ·subst e
      exact getD_set_true (hdeps j hj)
     ·rw [getD_set_ne false (Ne.symm e)] at hk
      exact getD_set_true (hcl k hk j hj)
end
end Go.Ab
namespace Go.Ab
section
variable {P : Program} {φ : Nat → Nat} {w0 : World} {L : Lent} {E E' : Env} {st st' : St} {ev : Nat → Value} {w w' : World} {a : Act} {cf : CF} {io : Nat → List Bool}
theorem fd_fz : Fd fz1 (fun _ => False) where
 tk := fun v x k b h => by
  unfold fz1 at h; split at h
  ·cases h
  ·rename_i hn; cases h; exact absurd rfl (hn _ _ _)
 na := fun x h1 h2 => by unfold fz1; split <;> first | exact ⟨h1,h2⟩ | exact ⟨(fun _ h => by cases h),(fun _ h => by cases h)⟩
 nt := fun x h => by unfold fz1; split <;> first | exact h | rfl
theorem tab_map (f : Nat → A) : ∀ (l : List Nat) (i : Nat),tab (l.map fun j => (j,f j)) i = if i ∈ l then f i else .any
 | [],i => rfl
 | j :: l,i => by
   have ih := tab_map f l i
   simp only [tab,List.map_cons,List.lookup_cons] at ih ⊢
   by_cases h : i = j
   ·subst h; simp
   ·have : (i == j) = false := by simpa using h
    simp only [this]
    rw [ih]
    simp [h]
theorem rtab_map (r : Nat → Option Root) : ∀ (l : List Nat) (i : Nat) (R : Root),rtab (l.filterMap fun j => (r j).map fun R => (j,R)) i = some R → r i = some R
 | [],i,R,h => by simp [rtab] at h
 | j :: l,i,R,h => by
   simp only [List.filterMap_cons] at h
   cases hj : r j with
   | none =>
     rw [hj] at h
     exact rtab_map r l i R h
   | some R' =>
     rw [hj] at h
     simp only [Option.map_some,rtab,List.lookup_cons] at h
     by_cases e : i = j
     ·subst e; simp at h; rw [hj,h]
     ·have : (i == j) = false := by simpa using e
      simp only [this] at h
      exact rtab_map r l i R h
theorem restrict_ok (h : SimE φ w0 L E st ev w) (keep keepR : List Nat) : ∃ E',SimE φ w0 L E' (st.restrict keep keepR) ev w := by
 have hr : ∀ q R,(st.restrict keep keepR).r q = some R → st.r q = some R := fun q R hq => rtab_map st.r keepR q R hq
 refine ⟨_,h.giveUp (N := fun _ => False) (T := fun _ => True) (ok' := fun b => E.ok b ∨ ∃ i k,Tk (ev i) (st.t i) k b) (ev' := ev) (st' := st.restrict keep keepR) (fun b hb => .inl hb) (fun b hb => ?_) (fun q R hq => ⟨hr q R hq,id⟩) (fun i => ?_) (fun i k b ht => ?_)⟩
 ·rcases hb with h1 | ⟨i,k,h1⟩
  ·exact .inl h1
  ·exact .inr (.inr ⟨i,k,trivial,h1⟩)
 ·simp only [St.restrict,tab_map fun j => fz (st.t j)]
  split
  ·refine (h.slots i).comps' fd_fz.nt fun u y hty hy => ?_
   unfold fz1
   split
   ·rename_i k z xs
    cases hy with
    | data _ _ hh => cases hh
    | tokE => exact .data _ _ (.slE _ _ _)
    | tok b o cap j z xs vs hcc h0 hz hh hv' hrm =>
      exact .data _ _ (.sl b o cap z xs vs (.inr ⟨i,_,hty _ _ (.mk ⟨b,o,none⟩ _ _ _ _ _ h0)⟩) hz hcc (hh.mono (fun _ _ => rfl) (fun b hb => .inl hb)) hv')
   ·exact RV1.weak (E' := ⟨fun b => E.ok b ∨ ∃ i k,Tk (ev i) (st.t i) k b,E.ρ⟩) (fun b hb => Or.inl hb) (fun q R hq => ⟨hr q R hq,rfl⟩) hy
  ·exact .one _ _ (.any _)
 ·exfalso
  simp only [St.restrict,tab_map fun j => fz (st.t j)] at ht
  split at ht
  ·exact (Tk.comps fd_fz ht).2
  ·exact noTk_any _ _ ht
theorem least {p : Nat → Prop} : ∀ n,p n → ∃ k,p k ∧ ∀ j,p j → k ≤ j := by
 intro n
 induction n using Nat.strongRecOn with
 | _ n ih =>
   intro hn
   by_cases h : ∃ m,m < n ∧ p m
   ·obtain ⟨m,h1,h2⟩ := h; exact ih m h1 h2
   ·exact ⟨n,hn,fun j hj => by
     rcases Nat.lt_or_ge j n with h1 | h1
     ·exact absurd ⟨j,h1,hj⟩ h
     ·exact h1⟩
theorem least' {p : Nat → Prop} (h : ∃ k,p k) : ∃ k,p k ∧ ∀ j,p j → k ≤ j := by obtain ⟨n,hn⟩ := h; exact least n hn
def Ex.toExit : Ex → Exit
 | .normal => .normal
 | .exit i => .exit i
 | .ret => .ret
def chkCode (P : Program) (φ : Nat → Nat) (n : Nat) (lp : List Bool) : C → Code → Bool
 | .norm _ _ b,c => chkCode P φ n lp b c
 | .stop,_ => true
 | .skip,.skip => true
 | .skip,.label _ => true
 | .reg draw xs _ _,.region _ ops draw' => draw == draw' && chkOps P φ n lp ops.toList xs && (!draw || chkDraw ops.toList xs)
 | .seq a b,.seq a' b' => chkCode P φ n lp a a' && chkCode P φ n lp b b'
 | .cond c a b,.cond c' a' b' => chkOpd φ c' c && chkCode P φ n lp a a' && chkCode P φ n lp b b'
 | .block i b,.block j b' => i == j && chkCode P φ n lp b b'
 | .loop b,.loop b' => chkCode P φ n lp b b'
 | .exit i,.exit j => i == j
 | .ret,.ret => true
 | _,_ => false
def ExecOk (P : Program) (φ : Nat → Nat) (ex : C → St → Option (Ex × St)) : Prop :=
 ∀ (x : C) (c : Code) (n : Nat) (lp : List Bool),chkCode P φ n lp x c = true → ∀ (w0 : World) (L : Lent),(∀ i p,L.pl i = some p → (lp[i]?).getD false = true) → Gl P w0 L → ∀ (E : Env) (st : St) (a : Act) (w : World) (e : Ex) (st' : St),
   Sim φ w0 L E st a w → a.tmps.size = n → ex x st = some (e,st') → ∀ Q : Exit → Act → World → Prop,(∀ E' a' w',Sim φ w0 L E' st' a' w' → a'.tmps.size = n → Q e.toExit a' w') → c.wp P Q a w
theorem exec_zero (M : Nat → Option Def) : ExecOk P φ (exec M 0) := fun x c n lp _ w0 L _ _ E st a w e st' _ _ he => by simp [exec] at he
theorem chkOps_range {n : Nat} {lp : List Bool} {ops : Array Oper} {xs : List Op} (h : chkOps P φ n lp ops.toList xs = true) (st : St) : runOps cf io xs xs st = runI cf io xs (List.range ops.size) st := by
 have hl := chkOps_len h
 rw [runOps_runI xs xs [] st rfl]
 simp only [List.length_nil]
 rw [← hl,Array.length_toList,List.range_eq_range']
theorem exec_succ {M : Nat → Option Def} (hm : P.follows .mixedOrders = true) {m : Nat} (ih : ∀ k,k ≤ m → ExecOk P φ (exec M k)) (hcf : CfOk P φ (callF M (exec M m))) : ExecOk P φ (exec M (m + 1)) := by
 intro x c n lp hc w0 L hlp hG E st a w e st' h hn he Q hQ
 cases x with
 | stop => simp [exec] at he
 | norm keep keepR b =>
   simp only [exec] at he
   obtain ⟨E1,h1⟩ := restrict_ok h.toSimE keep keepR
   simp only [chkCode] at hc
   exact ih m (Nat.le_refl _) b c n lp hc w0 L hlp hG E1 _ a w e st' ⟨h1,h.nodef⟩ hn he Q hQ
 | skip =>
   simp only [exec,Option.some.injEq,Prod.mk.injEq] at he
   obtain ⟨rfl,rfl⟩ := he
   cases c <;> first
    | exact wp_skip (hQ E a w h hn)
    | exact wp_label (hQ E a w h hn)
    | (simp [chkCode] at hc; done)
 | reg draw xs keep keepR =>
   cases c <;> first
    | (simp [chkCode] at hc; done)
    | skip
   rename_i id ops draw'
   simp only [chkCode,Bool.and_eq_true,beq_iff_eq] at hc
   obtain ⟨⟨rfl,hops⟩,hdr⟩ := hc
   simp only [exec] at he
   obtain ⟨s,hs,he⟩ := Option.map_eq_some_iff.1 he
   simp only [Prod.mk.injEq] at he
   obtain ⟨rfl,rfl⟩ := he
   rw [chkOps_range hops] at hs
   have hQ' : ∀ E' a' w',Sim φ w0 L E' s a' w' → a'.tmps.size = n → Q .normal a' w' := fun E' a' w' hS hn' => by
    obtain ⟨E1,h1⟩ := restrict_ok hS.toSimE keep keepR
    exact hQ E1 a' w' ⟨h1,hS.nodef⟩ hn'
   cases draw with
   | false => exact wp_region (seq_sound ⟨hcf,hG⟩ hlp hops hQ' h hn hs)
   | true =>
     simp only [Bool.not_true,Bool.false_or] at hdr
     refine wp_region_any hm ?_
     have hext : Ext w { w with drawn := w.drawn + 1 } := ⟨Nat.le_refl _,fun _ _ => rfl,⟨rfl,rfl⟩⟩
     refine any_sound ⟨hcf,hG⟩ hlp hops hdr hQ' ops.size (rem := List.range ops.size) (by simp) List.pairwise_lt_range (by simp) (fun i => ?_) (fun k hk => ?_) (h.ext hext (.refl E w _)) hn hs
     ·simp only [List.mem_range]
      constructor
      ·intro hi; exact ⟨hi,by simp [Array.getD_eq_getD_getElem?,hi]⟩
      ·exact fun h => h.1
     ·rw [Array.getD_eq_getD_getElem?] at hk
      by_cases hi : k < ops.size
      ·simp [hi] at hk
      ·simp [Array.getElem?_eq_none (xs := Array.replicate ops.size false) (i := k) (by simpa using hi)] at hk
 | seq x y =>
   cases c <;> first
    | (simp [chkCode] at hc; done)
    | skip
   rename_i c d
   simp only [chkCode,Bool.and_eq_true] at hc
   simp only [exec] at he
   apply wp_seq
   split at he
   ·rename_i s hx
    refine ih m (Nat.le_refl _) x c n lp hc.1 w0 L hlp hG E st a w .normal s h hn hx _ fun E' a' w' hS hn' => ?_
    exact ih m (Nat.le_refl _) y d n lp hc.2 w0 L hlp hG E' s a' w' e st' hS hn' he Q hQ
   ·rename_i hne
    refine ih m (Nat.le_refl _) x c n lp hc.1 w0 L hlp hG E st a w e st' h hn he _ fun E' a' w' hS hn' => ?_
    have hq := hQ E' a' w' hS hn'
    cases e with
    | normal => exact absurd he (hne _)
    | exit i => exact hq
    | ret => exact hq
 | cond o x y =>
   cases c <;> first
    | (simp [chkCode] at hc; done)
    | skip
   rename_i o' c d
   simp only [chkCode,Bool.and_eq_true] at hc
   obtain ⟨⟨hco,h1⟩,h2⟩ := hc
   simp only [exec] at he
   have hv := (opd_ok h hco).1
   split at he
   ·rename_i t ht
    rw [ht] at hv
    refine wp_cond hv.bool_inv ?_
    cases t
    ·exact ih m (Nat.le_refl _) y d n lp h2 w0 L hlp hG E st a w e st' h hn he Q hQ
    ·exact ih m (Nat.le_refl _) x c n lp h1 w0 L hlp hG E st a w e st' h hn he Q hQ
   ·cases he
 | block i x =>
   cases c <;> first
    | (simp [chkCode] at hc; done)
    | skip
   rename_i j c
   simp only [chkCode,Bool.and_eq_true,beq_iff_eq] at hc
   obtain ⟨rfl,h1⟩ := hc
   simp only [exec] at he
   apply wp_block
   split at he
   ·rename_i k s hx
    refine ih m (Nat.le_refl _) x c n lp h1 w0 L hlp hG E st a w (.exit k) s h hn hx _ fun E' a' w' hS hn' => ?_
    simp only [Ex.toExit,Exit.inBlock]
    split at he
    ·rename_i hk
     simp only [Option.some.injEq,Prod.mk.injEq] at he
     obtain ⟨rfl,rfl⟩ := he
     rw [if_pos hk]
     exact hQ E' a' w' hS hn'
    ·rename_i hk
     simp only [Option.some.injEq,Prod.mk.injEq] at he
     obtain ⟨rfl,rfl⟩ := he
     rw [if_neg hk]
     exact hQ E' a' w' hS hn'
   ·rename_i hne
    refine ih m (Nat.le_refl _) x c n lp h1 w0 L hlp hG E st a w e st' h hn he _ fun E' a' w' hS hn' => ?_
    have hq := hQ E' a' w' hS hn'
    cases e with
    | normal => exact hq
    | exit k => exact absurd he (hne _ _)
    | ret => exact hq
 | loop x =>
   cases c <;> first
    | (simp [chkCode] at hc; done)
    | skip
   rename_i c
   simp only [chkCode] at hc
   let R : Nat → Act → World → Prop := fun k a w => k ≤ m + 1 ∧ a.tmps.size = n ∧ ∃ E st,Sim φ w0 L E st a w ∧ exec M k (.loop x) st = some (e,st')
   classical
   let μ : Act → World → Nat := fun a w => if hx : ∃ k,R k a w then Classical.choose (least' hx) else 0
   have hμ1 : ∀ a w,(∃ k,R k a w) → R (μ a w) a w ∧ ∀ j,R j a w → μ a w ≤ j := fun a w hx => by
    have h1 : μ a w = Classical.choose (least' hx) := dif_pos hx
    rw [h1]
    exact Classical.choose_spec (least' hx)
   refine wp_loop (fun a w => ∃ k,R k a w) μ ⟨m + 1,Nat.le_refl _,hn,E,st,h,he⟩ fun a w hI => ?_
   have hR := (hμ1 a w hI).1
   obtain ⟨hle,hn',E1,s1,hS,hx⟩ := hR
   cases hk : μ a w with
   | zero => rw [hk] at hx; simp [exec] at hx
   | succ k =>
     rw [hk] at hx hle
     simp only [exec] at hx
     split at hx
     ·rename_i s2 hx2
      refine ih k (by omega) x c n lp hc w0 L hlp hG E1 s1 a w .normal s2 hS hn' hx2 _ fun E' a' w' hS' hn'' => ?_
      have hI' : ∃ k,R k a' w' := ⟨k,by omega,hn'',E',s2,hS',hx⟩
      refine ⟨hI',?_⟩
      have : μ a' w' ≤ k := (hμ1 a' w' hI').2 k ⟨by omega,hn'',E',s2,hS',hx⟩
      omega
     ·rename_i hne
      refine ih k (by omega) x c n lp hc w0 L hlp hG E1 s1 a w e st' hS hn' hx _ fun E' a' w' hS' hn'' => ?_
      have hq := hQ E' a' w' hS' hn''
      cases e with
      | normal => exact absurd hx (hne _)
      | exit i => exact hq
      | ret => exact hq
 | exit i =>
   cases c <;> first
    | (simp [chkCode] at hc; done)
    | skip
   simp only [chkCode,beq_iff_eq] at hc
   subst hc
   simp only [exec,Option.some.injEq,Prod.mk.injEq] at he
   obtain ⟨rfl,rfl⟩ := he
   exact wp_exit (hQ E a w h hn)
 | ret =>
   cases c <;> first
    | (simp [chkCode] at hc; done)
    | skip
   simp only [exec,Option.some.injEq,Prod.mk.injEq] at he
   obtain ⟨rfl,rfl⟩ := he
   exact wp_ret (hQ E a w h hn)
end
end Go.Ab
namespace Go.Ab
section
variable {P : Program} {φ : Nat → Nat} {w0 : World} {L : Lent} {E E' : Env} {st st' : St} {ev : Nat → Value} {w w' : World} {a : Act} {K : Nat → Prop}
def place : Value → A → Option (Nat × Nat)
 | .pointer (some ad),.iob .. => some (ad.block,ad.off)
 | .slice (some ad) _ cap,.ios .. => if cap = 0 then none else some (ad.block,ad.off)
 | _,_ => none
theorem place_lent {v : Value} {x : A} {p : Nat × Nat} (h : place v x = some p) : isLent x = true := by
 unfold place at h
 split at h
 ·rfl
 ·rfl
 ·cases h
theorem lentOk_at : ∀ {io : List Bool} {as : List A},lentOk io as = true → ∀ {i : Nat} {x : A},as[i]? = some x → isLent x = true → (io[i]?).getD false = true
 | _,[],_,i,x,h,_ => by simp at h
 | b :: bs,a :: l,h,i,x,hx,hl => by
   simp only [lentOk,Bool.and_eq_true,Bool.or_eq_true,Bool.not_eq_true'] at h
   cases i with
   | zero =>
     simp at hx; subst hx
     rcases h.1 with h1 | h1
     ·rw [hl] at h1; cases h1
     ·simpa using h1
   | succ i => simpa using lentOk_at h.2 (i := i) (by simpa using hx) hl
 | [],a :: l,h,i,x,hx,hl => by
   simp only [lentOk,Bool.and_eq_true,Bool.not_eq_true'] at h
   cases i with
   | zero => simp at hx; subst hx; rw [hl] at h; cases h.1
   | succ i => simpa using lentOk_at (io := []) h.2 (i := i) (by simpa using hx) hl
theorem CellReps.lt : ∀ {vs : List Value} {xs : List A} {bs : List Nat},CellReps φ w K vs xs bs → ∀ b ∈ bs,b < w.heap.size
 | _,_,_,.nil,b,h => by cases h
 | _,_,_,.cons v x ob vs xs bs h t,b,hb => by
   rcases List.mem_append.1 hb with hb | hb
   ·cases h with
    | data => simp at hb
    | own _ _ _ h => cases h with
      | empty => simp at hb
      | mk b o cap z xs vs hc h0 hz h hv hr => simp at hb; subst hb; exact hr.lt
   ·exact t.lt b hb
theorem ArgReps.lt : ∀ {vs : List Value} {xs : List A} {bs : List Nat},ArgReps φ w K vs xs bs → ∀ b ∈ bs,b < w.heap.size
 | _,_,_,.nil,b,h => by cases h
 | _,_,_,.cons v x ob vs xs bs h t,b,hb => by
   rcases List.mem_append.1 hb with hb | hb
   ·cases h with
    | data => cases hb
    | iob _ _ _ h => cases h with
      | mk b o z x vs bs h hv hr hz =>
        rcases List.mem_cons.1 hb with rfl | hb
        ·exact hr.lt
        ·exact h.lt _ hb
    | ios _ _ _ h => cases h with
      | empty => simp at hb
      | mk b o cap z xs vs hc h0 hz h hv hr => simp at hb; subst hb; exact hr.lt
   ·exact t.lt b hb
theorem ArgReps.length : ∀ {vs : List Value} {xs : List A} {bs : List Nat},ArgReps φ w K vs xs bs → vs.length = xs.length
 | _,_,_,.nil => rfl
 | _,_,_,.cons _ _ _ _ _ _ _ t => congrArg (· + 1) t.length
theorem SimE.putE (h : SimE φ w0 L E st ev w) {i : Nat} {x : A} (hv : RV φ E st.r w (ev i) x) (hn : ∀ k b,¬ Tk (ev i) x k b) : SimE φ w0 L E (st.put (some i) x) ev w :=
 h.weak (fun _ _ h => h) (fun j => by
  simp only [St.put]
  split
  ·rename_i e; rw [e]; exact hv
  ·exact h.slots j) (fun j k b ht => by
  simp only [St.put] at ht
  split at ht
  ·rename_i e; rw [e] at ht; exact (hn k b ht).elim
  ·exact ⟨j,ht⟩)
theorem Fresh.putE {b : Nat} (h : Fresh w0 L E st ev w b) {i : Nat} {x : A} (hn : ∀ k b,¬ Tk (ev i) x k b) : Fresh w0 L E (st.put (some i) x) ev w b :=
 ⟨h.z,h.r,fun j k b' ht => by
   simp only [St.put] at ht
   split at ht
   ·rename_i e; rw [e] at ht; exact (hn k b' ht).elim
   ·exact h.t j k b' ht⟩
theorem enterArgs_ok : ∀ {as : List A} {vs : List Value} {i : Nat} {E : Env} {st st1 : St} {bs : List Nat},SimE φ w0 L E st ev w → ArgReps φ w E.ok vs as bs → bs.Nodup → (∀ b ∈ bs,Fresh w0 L E st ev w b) →
 (∀ j v,vs[j]? = some v → ev (i + j) = v) → (∀ j v x,vs[j]? = some v → as[j]? = some x → L.pl (i + j) = if i + j < 1000 then place v x else none) → enterArgs i as st = some st1 →
 ∃ E1,SimE φ w0 L E1 st1 ev w ∧ E1.ok = E.ok
 | [],vs,i,E,st,st1,bs,h,ha,_,_,_,_,he => by
   simp [enterArgs] at he; subst he; exact ⟨E,h,rfl⟩
 | x :: as,vs,i,E,st,st1,bs,h,ha,hnd,hF,hev,hpl,he => by
   cases ha with
   | cons v _ b0 vs _ bs0 h0 t =>
     obtain ⟨n1,n2,n3⟩ := List.nodup_append.1 hnd
     have hv0 : ev i = v := by have := hev 0 v rfl; simpa using this
     have hev' : ∀ j u,vs[j]? = some u → ev (i + 1 + j) = u := fun j u hu => by
      have := hev (j + 1) u (by simpa using hu)
      rwa [show i + (j + 1) = i + 1 + j from by omega] at this
     have hpl' : ∀ j u y,vs[j]? = some u → as[j]? = some y → L.pl (i + 1 + j) = if i + 1 + j < 1000 then place u y else none := fun j u y hu hy => by
      have := hpl (j + 1) u y (by simpa using hu) (by simpa using hy)
      rwa [show i + (j + 1) = i + 1 + j from by omega] at this
     have hp0 : L.pl i = if i < 1000 then place v x else none := by have := hpl 0 v x rfl rfl; simpa using this
     cases h0 with
     | data _ hr =>
       have hnt : ∀ k b,¬ Tk (ev i) x k b := fun k b => by rw [hv0]; exact Tk.of_rep hr
       have hp : enterArgs i (x :: as) st = if Ab.pure x || isFn x then enterArgs (i + 1) as (st.put (some i) x) else none := by
        cases hr <;> rfl
       rw [hp] at he
       split at he
       ·have h1 := h.putE (i := i) (x := x) (by rw [hv0]; exact .one _ _ (.data _ _ hr)) hnt
        exact enterArgs_ok h1 t n2 (fun b hb => (hF b (List.mem_append_right _ hb)).putE hnt) hev' hpl' he
       ·cases he
     | iob z x _ hb =>
       simp only [enterArgs] at he
       obtain ⟨s,hs,he⟩ := Option.bind_eq_some_iff.1 he
       obtain ⟨E1,h1,hok,hrv,hfr⟩ := h.takeVar hs hb n1 (fun b hb => hF b (List.mem_append_left _ hb)) (fun p' e => by
        rw [hp0] at e
        split at e
        ·cases hb with
         | mk b o z x us bs hcr hcl hrm hz =>
           simp only [place,Option.some.injEq] at e
           rw [← e]
        ·cases e)
       have hnt : ∀ k b,¬ Tk (ev i) (.loc i 0 0) k b := fun k b => noTk_loc k b
       have h2 := h1.putE (i := i) (x := .loc i 0 0) (by rw [hv0]; exact .one _ _ hrv) hnt
       obtain ⟨E2,h3,hok2⟩ := enterArgs_ok h2 (by rw [hok]; exact t) n2 (fun b hb => (hfr b (fun hm => n3 b hm b hb rfl) (hF b (List.mem_append_right _ hb))).putE hnt) hev' hpl' he
       exact ⟨E2,h3,hok2.trans hok⟩
     | ios z xs ob ho =>
       simp only [enterArgs] at he
       split at he
       ·rename_i hi
        obtain ⟨E1,h1,_,hok,hrv,hfr⟩ := h.rootOwn (q := i) ho (fun b e => hF b (List.mem_append_left _ (by simp [e]))) (by
         rw [hp0,if_pos hi]
         cases ho with
         | empty ad z => cases ad <;> exact .inl rfl
         | mk b o cap z xs us hc hc0 hz hh hv hr => exact .inr ⟨b,o,_,cap,rfl,hc0,by simp [place,hc0]⟩) (h.noRef_lt hi)
        have hnt : ∀ k b,¬ Tk (ev i) (.view i 0 xs.length) k b := fun k b => noTk_view k b
        have h2 := h1.putE (i := i) (x := .view i 0 xs.length) (by rw [hv0]; exact .one _ _ hrv) hnt
        obtain ⟨E2,h3,hok2⟩ := enterArgs_ok h2 (by rw [hok]; exact t) n2 (fun b hb => (hfr b (fun e => n3 b (by simp [e]) b hb rfl) (hF b (List.mem_append_right _ hb))).putE hnt) hev' hpl' he
        exact ⟨E2,h3,hok2.trans hok⟩
       ·cases he
def lentOf (K : Nat → Prop) (vs : List Value) (as : List A) (bs : List Nat) : Lent where
 blk := (· ∈ bs)
 K0 := K
 pl := fun i => if i < 1000 then (match vs[i]?,as[i]? with | some v,some x => place v x | _,_ => none) else none
 lt := fun i p h => by split at h; assumption; cases h
theorem enter_ok {fn : Fn} {as : List A} {vs : List Value} {bs : List Nat} {n : Nat} {st0 : St} (ha : ArgReps φ w K vs as bs) (hnd : bs.Nodup) (hK : ∀ b ∈ bs,¬ K b) (hz : ∀ b,K b → b < w.heap.size) (he : fn.enter as = some st0) :
 ∃ E,Sim φ w (lentOf K vs as bs) E st0 { tmps := vs.toArray ++ Array.replicate (n - vs.length) undef,defers := [] } w ∧ E.ok = K := by
 unfold Fn.enter at he
 split at he
 ·have ht : ∀ i,(⟨tab [],rtab []⟩ : St).t i = .any := fun i => rfl
  have hr : ∀ i,(⟨tab [],rtab []⟩ : St).r i = none := fun i => rfl
  have h0 : SimE φ w (lentOf K vs as bs) ⟨K,fun _ => none⟩ ⟨tab [],rtab []⟩ (fun i => Act.eval { tmps := vs.toArray ++ Array.replicate (n - vs.length) undef,defers := [] } (.tmp i)) w := {
   slots := fun i => by rw [ht]; exact .one _ _ (.any _)
   roots := fun q R h => by rw [hr] at h; cases h
   inj := fun q q' b o b' o' h => by rw [hr] at h; cases h
   rz := fun q b o h => by rw [hr] at h; cases h
   tz := fun i k b h => by rw [ht] at h; exact (noTk_any _ _ h).elim
   td := fun i j k k' b b' h => by rw [ht] at h; exact (noTk_any _ _ h).elim
   okz := hz,grow := Nat.le_refl _,frame := fun _ _ _ => rfl,env := ⟨rfl,rfl⟩,fr := fun _ _ _ => rfl,room := fun _ _ h => h
   lent := fun i p _ h => by rw [hr] at h; cases h
   okU := fun _ h => h,okL := fun _ h => .inl h }
  obtain ⟨E1,h1,hok⟩ := enterArgs_ok h0 ha hnd (fun b hb => ⟨⟨hK b hb,.inr hb,ha.lt b hb⟩,(fun q b' o h => by rw [hr] at h; cases h),(fun i k b' h => by rw [ht] at h; exact (noTk_any _ _ h).elim)⟩) (fun j v hv => by
   have hj : j < vs.length := by
    rcases Nat.lt_or_ge j vs.length with h | h
    ·exact h
    ·simp [List.getElem?_eq_none h] at hv
   simp only [Act.eval,Nat.zero_add]
   rw [Array.getD_eq_getD_getElem?,Array.getElem?_append_left (by simpa using hj)]
   simp [hv]) (fun j v x hv hx => by simp only [lentOf,Nat.zero_add,hv,hx]) he
  exact ⟨E1,⟨h1,rfl⟩,hok⟩
 ·cases he
end
end Go.Ab
