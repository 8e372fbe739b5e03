/- Proved: TreeTells: whatever tree, root, key and number come in (together of bulk at most 1048576), the call returns true and they read as they did; no other condition. This text is part 6 of 18. -/
import Derived.Test.YtghomgiklhbjiaaW05
set_option linter.unusedSimpArgs false
set_option linter.unusedVariables false
section
namespace Go.VL
open Go
noncomputable def mz1 (f:DV→DV→Bool) (m:Mm) (c:Nat) (d D:DV):Bool:=match d,D with
  | .int k x,.int k' y=>bx (Nat.beq (kidx k) (kidx k')) (eqx x y) false
  | .bool x,.bool y=>bx x y (notx y)
  | .str x,.str y=>eqs (mapx UInt8.toNat x.data.toList) (mapx UInt8.toNat y.data.toList)
  | .nils,.nils=>true
  | .nilp,.nilp=>true
  | .nili,.nili=>true
  | .nilf,.nilf=>true
  | .nils,.vec c' k []=>Nat.beq c c'
  | .emp,.vec c' k []=>Nat.beq c c'
  | .agg xs,.agg ys=>eqds f xs ys
  | .tup xs,.tup ys=>eqds f xs ys
  | .fn g xs,.fn g' ys=>bx (Nat.beq g g') (eqds f xs ys) false
  | .iface t x,.iface t' y=>bx (Nat.beq t t') (f x y) false
  | .sl id g off l,.vec c' k ys=>bx (Nat.beq c c') (match m.t.get id with
    | some (.arr _ k' ln _ xs)=>bx (Nat.beq k k') (bx (Nat.beq g ln) (eqds (fun x y=>eqds f x.cells y.cells) (taken l (dropn off xs)) ys) false) false
    | _=>false) false
  | .ptr id g j o,.vptr c' ys=>bx (Nat.beq c c') (match m.t.get id with
    | some (.arr _ k' ln _ xs)=>bx (Nat.beq g ln) (match nth xs j with
      | some x=>eqds f (dropn o x.cells) ys
      | none=>false) false
    | _=>false) false
  | .vec c1 k xs,.vec c2 k' ys=>bx (Nat.beq c1 c2) (bx (Nat.beq k k') (eqds (fun x y=>eqds f x.cells y.cells) xs ys) false) false
  | _,_=>false
noncomputable def mz (n:Nat) (m:Mm) (c:Nat):DV→DV→Bool:=@Nat.rec (fun _=>DV→DV→Bool) (fun _ _=>false) (fun _ f=>mz1 f m c) n
theorem eqds_all {f:DV→DV→Bool}:∀ (a b:List DV),eqds f a b = true→a.length = b.length∧∀ (i:Nat) (x y:DV),a[i]? = some x→b[i]? = some y→f x y = true
  | [],[],_=>⟨rfl,fun i x y h=>by simp at h⟩
  | [],y :: r,h=>by cases h
  | x :: q,[],h=>by cases h
  | x :: q,y :: r,h=>by
    have h':bx (f x y) (eqds f q r) false = true:=h
    rw [bx_if] at h'
    split at h'
    · rename_i hx
      obtain ⟨h1,h2⟩:=eqds_all q r h'
      refine ⟨by simp [h1],fun i a b ha hb=>?_⟩
      cases i with
      | zero=>simp at ha hb; subst ha; subst hb; exact hx
      | succ i=>exact h2 i a b (by simpa using ha) (by simpa using hb)
    · cases h'
section
variable {w:World} {F F':Nat→Nat→Prop} {μ μ':Nat→Option Nat} {m:Mm} {σ0:List Ob} {c:Nat}
theorem lists_rep {f:DV→DV→Bool} (hf:∀ d D v,f d D = true→Rep w F μ m.obs d v→Rep w F' μ' σ0 D v) {xs ys:List DV} {vs:List Value} (h:eqds f xs ys = true) (hl:xs.length = vs.length)
    (hr:∀ (i:Nat) (d:DV) (v:Value),xs[i]? = some d→vs[i]? = some v→Rep w F μ m.obs d v):ys.length = vs.length∧∀ (i:Nat) (d:DV) (v:Value),ys[i]? = some d→vs[i]? = some v→Rep w F' μ' σ0 d v:=by
  obtain ⟨h1,h2⟩:=eqds_all _ _ h
  refine ⟨by omega,fun i d v hd hv=>?_⟩
  have hi:=(List.getElem?_eq_some_iff.1 hd).1
  have hx:xs[i]? = some xs[i]:=List.getElem?_eq_getElem (by omega)
  exact hf _ _ _ (h2 i _ _ hx hd) (hr i _ _ hx hv)
theorem mz_ok (hg:Good m) (hr:HR w F μ m.obs) (hF:∀ c b,F c b→F' c b) (hμ:∀ id b,μ id = some b→F' c b):∀ n d D v,mz n m c d D = true→Rep w F μ m.obs d v→Rep w F' μ' σ0 D v
  | 0,d,D,v,h,_=>by cases h
  | n+1,d,D,v,h,hv=>by
    have ih:=mz_ok hg hr hF hμ n
    have h':mz1 (mz n m c) m c d D = true:=h
    unfold mz1 at h'
    split at h'
    · obtain ⟨h1,h2⟩:=beq2 h'
      rw [(kidx_iff _ _).1 h1,(eqx_iff _ _).1 h2] at hv
      cases hv; exact .int
    · rename_i x y
      have:x = y:=by
        revert h'
        cases x <;> cases y <;> intro h' <;> first | rfl | cases h'
      subst this
      cases hv; exact .bool
    · rename_i x y
      have:=(eqs_iff _ _).1 h'
      rw [mapx_eq,mapx_eq] at this
      have h2:x.data.toList = y.data.toList:=(List.map_inj_right (fun a b e=>UInt8.toNat_inj.1 e)).1 this
      have:x = y:=by
        cases x; cases y
        congr 1
        exact Array.ext' h2
      subst this
      cases hv; exact .str
    · cases hv; exact .nils
    · cases hv; exact .nilp
    · cases hv; exact .nili
    · cases hv; exact .nilf
    · cases hv
      exact .vec (A:=none) (cap:=0) (fun _ _=>undef) (by simp) (by simp) (fun h=>by simp at h) (fun x hx=>by simp at hx) (fun j i x d hx=>by simp at hx)
    · cases hv
      exact .vec (cap:=0) (fun _ _=>undef) (by simp) (by simp) (fun h=>by simp at h) (fun x hx=>by simp at hx) (fun j i x d hx=>by simp at hx)
    · cases hv with
      | agg hl hh =>
        obtain ⟨h1,h2⟩:=lists_rep ih h' hl hh
        exact .agg h1 h2
    · cases hv with
      | tup hl hh =>
        obtain ⟨h1,h2⟩:=lists_rep ih h' hl hh
        exact .tup h1 h2
    · obtain ⟨e,h2⟩:=beq2 h'
      replace h':=h2; clear h2
      subst e
      cases hv with
      | fn hl hh =>
        obtain ⟨h1,h2⟩:=lists_rep ih h' hl hh
        exact .fn h1 h2
    · obtain ⟨e,h2⟩:=beq2 h'
      replace h':=h2; clear h2
      subst e
      cases hv with
      | iface hh=>exact .iface (ih _ _ _ h' hh)
    · -- a slice
      rename_i id g off l c' k ys
      obtain ⟨e,h2⟩:=beq2 h'
      replace h':=h2; clear h2
      subst e
      split at h' <;> try cases h'
      rename_i t k' ln on xs ho
      obtain ⟨e,h2⟩:=beq2 h'
      replace h':=h2; clear h2
      subst e
      obtain ⟨e,h2⟩:=beq2 h'
      replace h':=h2; clear h2
      subst e
      rw [taken_eq,dropn_eq] at h'
      obtain ⟨ho1,hln⟩:=MmOf.arr hg ho
      obtain ⟨e1,e2⟩:=eqds_all _ _ h'
      cases hv with
      | @sl _ _ _ _ A cap hs =>
        obtain ⟨t2,k2,xs2,ho2,q1,q2,q3,q4,q5⟩:=hs
        rw [ho1] at ho2
        cases ho2
        have hlen:ys.length = l:=by
          rw [← e1]; simp; omega
        obtain ⟨hk1,hor⟩:=hr.obj _ _ ho1
        rcases q5 hln with ⟨g0,rfl,rfl,hmu⟩ | ⟨b,cur,fr,hmu,hh,hsz,hAs,hA⟩
        · have:l = 0:=by omega
          subst this
          have hy:ys = []:=List.length_eq_zero_iff.1 hlen
          subst hy
          exact .vec (A:=none) (cap:=0) (fun _ _=>undef) (by simp) (by simp) (fun h=>by simp at h) (fun x hx=>by simp at hx) (fun j i x d hx=>by simp at hx)
        · rcases hor with ⟨rfl,hmu'⟩ | ⟨b',cur',fr',hmu',hh',hfr',hcells⟩
          · rw [hmu] at hmu'; cases hmu'
          rw [hmu] at hmu'; cases hmu'
          rw [hh] at hh'; cases hh'
          have key:∀ (j i:Nat) (y D:DV),ys[j]? = some y→y.cells[i]? = some D→∃ x d,xs[off+j]? = some x∧x.cells.length = y.cells.length∧x.cells[i]? = some d∧mz n m c d D = true:=by
            intro j i y D hy hD
            have hj:=(List.getElem?_eq_some_iff.1 hy).1
            have hx:((xs.drop off).take l)[j]? = some (((xs.drop off).take l)[j]'(by omega)):=List.getElem?_eq_getElem _
            have hxy:=e2 j _ _ hx hy
            obtain ⟨f1,f2⟩:=eqds_all _ _ hxy
            have hi:=(List.getElem?_eq_some_iff.1 hD).1
            refine ⟨_,_,?_,f1,List.getElem?_eq_getElem (by omega),f2 i _ _ (List.getElem?_eq_getElem (by omega)) hD⟩
            rw [List.getElem?_take,if_pos (by omega),List.getElem?_drop] at hx
            exact hx
          have:=Rep.vec (w:=w) (F:=F') (μ:=μ') (σ:=σ0) (c:=c) (k:=k) (xs:=ys) (A:=A) (cap:=cap) (fun j i=>(cur[(off+j) * k+i]?).getD undef) (by omega) q4 (fun h0=>by
            refine ⟨_,hA (.inl (by omega)),hμ _ _ hmu,fun j i hj hi=>?_⟩
            have hy:ys[j]? = some ys[j]:=List.getElem?_eq_getElem hj
            have hx:((xs.drop off).take l)[j]? = some (((xs.drop off).take l)[j]'(by omega)):=List.getElem?_eq_getElem _
            have hxk:=hk1 _ (List.mem_of_mem_drop (List.mem_of_mem_take (List.mem_of_getElem? hx)))
            rw [List.getElem?_take,if_pos (by omega),List.getElem?_drop] at hx
            obtain ⟨vv,g1,g2⟩:=hcells (off+j) i _ _ hx (List.getElem?_eq_getElem (show i < _ by rw [hxk]; exact hi))
            rw [g1]
            rw [add_mk]
            unfold World.cell?
            rw [hh]
            dsimp only
            rw [show off * k+(j * k+i) = (off+j) * k+i by rw [Nat.add_mul]; omega,g1]
            rfl) (fun y hy=>by
            obtain ⟨j,hj⟩:=List.getElem?_of_mem hy
            have hjl:=(List.getElem?_eq_some_iff.1 hj).1
            have hx:((xs.drop off).take l)[j]? = some (((xs.drop off).take l)[j]'(by omega)):=List.getElem?_eq_getElem _
            rw [← (eqds_all _ _ (e2 j _ _ hx hj)).1]
            exact hk1 _ (List.mem_of_mem_drop (List.mem_of_mem_take (List.mem_of_getElem? hx)))) (fun j i y D hy hD=>by
            obtain ⟨x,d,f1,f2,f3,f4⟩:=key j i y D hy hD
            obtain ⟨vv,g1,g2⟩:=hcells (off+j) i x d f1 f3
            rw [g1]
            exact ih _ _ _ f4 g2)
          rwa [hlen] at this
    · -- a pointer
      rename_i id g j o c' ys
      obtain ⟨e,h2⟩:=beq2 h'
      replace h':=h2; clear h2
      subst e
      split at h' <;> try cases h'
      rename_i t k' ln on xs ho
      obtain ⟨e,h2⟩:=beq2 h'
      replace h':=h2; clear h2
      subst e
      split at h' <;> try cases h'
      rename_i x hx
      rw [nth_eq] at hx
      rw [dropn_eq] at h'
      obtain ⟨ho1,hln⟩:=MmOf.arr hg ho
      obtain ⟨e1,e2⟩:=eqds_all _ _ h'
      cases hv with
      | @ptr _ _ _ _ a hp =>
        obtain ⟨t2,k2,xs2,ho2,q1,q2⟩:=hp
        rw [ho1] at ho2
        cases ho2
        obtain ⟨b,hb,rfl⟩:=q2 hln
        obtain ⟨hk1,hor⟩:=hr.obj _ _ ho1
        rcases hor with ⟨rfl,hmu'⟩ | ⟨b',cur,fr,hmu',hh,hfr,hcells⟩
        · rw [hb] at hmu'; cases hmu'
        rw [hb] at hmu'; cases hmu'
        have key:∀ (i:Nat) (D:DV),ys[i]? = some D→∃ d,x.cells[o+i]? = some d∧mz n m c d D = true:=by
          intro i D hD
          have hi:=(List.getElem?_eq_some_iff.1 hD).1
          have hd:(x.cells.drop o)[i]? = some ((x.cells.drop o)[i]'(by omega)):=List.getElem?_eq_getElem _
          refine ⟨_,?_,e2 i _ _ hd hD⟩
          rw [List.getElem?_drop] at hd
          exact hd
        refine .vptr (fun i=>(cur[j * k'+(o+i)]?).getD undef) (hμ _ _ hb) (fun i hi=>?_) (fun i D hD=>?_)
        · obtain ⟨d,f1,_⟩:=key i _ (List.getElem?_eq_getElem hi)
          obtain ⟨vv,g1,_⟩:=hcells j (o+i) x d hx f1
          rw [g1,add_mk]
          unfold World.cell?
          rw [hh]
          dsimp only
          rw [Nat.add_assoc,g1]
          rfl
        · obtain ⟨d,f1,f2⟩:=key i D hD
          obtain ⟨vv,g1,g2⟩:=hcells j (o+i) x d hx f1
          rw [g1]
          exact ih _ _ _ f2 g2
    · -- what nobody writes
      rename_i c1 k xs c2 k' ys
      obtain ⟨e,h2⟩:=beq2 h'
      replace h':=h2; clear h2
      subst e
      obtain ⟨e,h2⟩:=beq2 h'
      replace h':=h2; clear h2
      subst e
      obtain ⟨e1,e2⟩:=eqds_all _ _ h'
      cases hv with
      | @vec _ _ _ A cap u hc hm ha hk hrr =>
        have:=Rep.vec (w:=w) (F:=F') (μ:=μ') (σ:=σ0) (c:=c1) (k:=k) (xs:=ys) (A:=A) (cap:=cap) u (by omega) hm (fun h0=>by
          obtain ⟨a,f1,f2,f3⟩:=ha (by omega)
          exact ⟨a,f1,hF _ _ f2,fun j i hj hi=>f3 j i (by omega) hi⟩) (fun y hy=>by
          obtain ⟨j,hj⟩:=List.getElem?_of_mem hy
          have hjl:=(List.getElem?_eq_some_iff.1 hj).1
          have hx:xs[j]? = some (xs[j]'(by omega)):=List.getElem?_eq_getElem _
          rw [← (eqds_all _ _ (e2 j _ _ hx hj)).1]
          exact hk _ (List.mem_of_getElem? hx)) (fun j i y D hy hD=>by
          have hjl:=(List.getElem?_eq_some_iff.1 hy).1
          have hx:xs[j]? = some (xs[j]'(by omega)):=List.getElem?_eq_getElem _
          obtain ⟨f1,f2⟩:=eqds_all _ _ (e2 j _ _ hx hy)
          have hi:=(List.getElem?_eq_some_iff.1 hD).1
          have hd:(xs[j]'(by omega)).cells[i]? = some ((xs[j]'(by omega)).cells[i]'(by omega)):=List.getElem?_eq_getElem _
          exact ih _ _ _ (f2 i _ _ hd hD) (hrr j i _ _ hx hd))
        rwa [← e1] at this
    · cases h'
end
theorem HR.empty {w:World} {F:Nat→Nat→Prop} {μ:Nat→Option Nat} {σ:List Ob} (hr:HR w F μ σ):HR w F (fun _=>none) [] :=
  ⟨fun id o h=>(by simp at h),fun _ _=>rfl,fun _ _ _ h=>(by cases h),fun _ _ h=>(by cases h),fun c b h=>⟨(hr.col c b h).1,fun _ e=>(by cases e)⟩⟩
theorem low_cells {n:Nat} {x:DV} (h:Low n x) {i:Nat} {d:DV} (hd:x.cells[i]? = some d):Low n d:=by
  cases x with
  | agg cs=>exact (low_agg cs).1 h d (List.mem_of_getElem? hd)
  | _ =>
    cases i with
    | zero=>simp only [DV.cells,List.getElem?_cons_zero,Option.some.injEq] at hd; subst hd; exact h
    | succ i=>simp [DV.cells] at hd
theorem Rep.low0 {w:World} {F:Nat→Nat→Prop} {μ μ':Nat→Option Nat} {σ σ':List Ob} {d:DV} {v:Value} (h:Rep w F μ σ d v):Low 0 d→Rep w F μ' σ' d v:=by
  induction h with
  | int=>intro _; exact .int
  | bool=>intro _; exact .bool
  | str=>intro _; exact .str
  | vec u hc hm ha hk hr ih =>
    intro hl
    exact .vec u hc hm ha hk fun j i x d hx hd=>ih j i x d hx hd (low_cells ((low_vec _ _ _).1 hl x (List.mem_of_getElem? hx)) hd)
  | agg hl h ih=>intro h0; exact .agg hl fun i d v hd hv=>ih i d v hd hv ((low_agg _).1 h0 d (List.mem_of_getElem? hd))
  | tup hl h ih=>intro h0; exact .tup hl fun i d v hd hv=>ih i d v hd hv ((low_tup _).1 h0 d (List.mem_of_getElem? hd))
  | ptr h=>intro h0; exact absurd ((low_ptr _ _ _ _).1 h0) (by omega)
  | vptr u hF hu hr ih=>intro h0; exact .vptr u hF hu fun i d hd=>ih i d hd ((low_vptr _ _).1 h0 d (List.mem_of_getElem? hd))
  | sl h=>intro h0; exact absurd ((low_sl _ _ _ _).1 h0) (by omega)
  | slx h=>intro h0; exact absurd ((low_slx _ _ _ _ _).1 h0) (by omega)
  | nils=>intro _; exact .nils
  | nilp=>intro _; exact .nilp
  | fn hl h ih=>intro h0; exact .fn hl fun i d v hd hv=>ih i d v hd hv ((low_fn _ _).1 h0 d (List.mem_of_getElem? hd))
  | nilf=>intro _; exact .nilf
  | iface h ih=>intro h0; exact .iface (ih ((low_iface _ _).1 h0))
  | nili=>intro _; exact .nili
  | mp h ho=>intro h0; exact absurd ((low_mp _).1 h0) (by omega)
  | it h ho=>intro h0; exact absurd ((low_it _).1 h0) (by omega)
  | yld h ho=>intro h0; exact absurd ((low_yld _).1 h0) (by omega)
  | emp=>intro _; exact .emp
  | undef=>intro _; exact .undef
  | skip=>intro _; exact .skip
theorem HR.keepAll {w w':World} {F F':Nat→Nat→Prop} {μ:Nat→Option Nat} {σ:List Ob} (hr:HR w F μ σ) (hk:∀ b,b < w.heap.size→w'.heap[b]? = w.heap[b]?) (hF:∀ c b,F c b→F' c b) (hF':∀ c b,F' c b→F c b∨(w.heap.size≤b∧b < w'.heap.size)) (hs:w.heap.size≤w'.heap.size) :
    HR w' F' μ σ∧Step w F μ σ w' F' μ σ:=by
  have hst:Step w F μ σ w' F' μ σ:=by
    refine ⟨fun c b h=>hk b (hr.col c b h).1,hF,fun id o h=>⟨o,h,Ob.ext_refl o⟩,fun id t k xs ys h h' hl=>⟨rfl,fun b cur fr hm hh=>⟨cur,fr,by rw [hk b (hr.lt _ _ hm)]; exact hh,rfl⟩⟩,fun _ _ _ _=>rfl⟩
  refine ⟨⟨fun id o h=>?_,hr.out,hr.inj,fun id b h=>Nat.lt_of_lt_of_le (hr.lt id b h) hs,fun c b h=>?_⟩,hst⟩
  · have:=hr.obj id o h
    cases o with
    | arr t k xs =>
      refine ⟨this.1,?_⟩
      rcases this.2 with ⟨e1,e2⟩ | ⟨b,cu,fr,hb,hh,hfr,hcc⟩
      · exact .inl ⟨e1,e2⟩
      · refine .inr ⟨b,cu,fr,hb,by rw [hk b (hr.lt _ _ hb)]; exact hh,hfr,fun j q x d hx hd=>?_⟩
        obtain ⟨v,h1,h2⟩:=hcc j q x d hx hd
        exact ⟨v,h1,h2.step hst⟩
    | oth t ds=>exact ObjRep.keep this hst h fun b hb=>hk b (hr.lt _ _ hb)
    | dead=>exact this
  · rcases hF' c b h with h | ⟨h1,h2⟩
    · exact ⟨Nat.lt_of_lt_of_le (hr.col c b h).1 hs,(hr.col c b h).2⟩
    · exact ⟨h2,fun id e=>by have:=hr.lt id b e; omega⟩
theorem Ok.freeze {P:Program} {f:FuncId} {args:List DV} {d D:DV} {m:Mm} (h:Ok P f args [] (.ret d) m.obs) (hg:Good m) {n c:Nat} (hz:mz n m c d D = true) (ha:∀ x ∈ args,Low 0 x) (σ:List Ob):Ok P f args σ (.ret D) σ:=by
  refine ⟨h.enters,fun w F μ vs hr hv=>?_⟩
  have hv0:Reps w F (fun _=>none) [] args vs:=⟨hv.1,fun i d v hd hv'=>(hv.2 i d v hd hv').low0 (ha d (List.mem_of_getElem? hd))⟩
  refine (h.calls w F _ vs hr.empty hv0).mono fun e w' he=>?_
  obtain ⟨F1,μ1,v,haf,rfl,hrep⟩:=he
  have hk:∀ b,b < w.heap.size→w'.heap[b]? = w.heap[b]?:=fun b hb=>haf.fr.keep b hb fun _ e=>by cases e
  have hnew:∀ id b,μ1 id = some b→w.heap.size≤b:=fun id b e=>by
    rcases haf.fr.new id b e with e | e
    · cases e
    · exact e
  obtain ⟨k1,k2⟩:=hr.keepAll (F':=fun c' b=>F1 c' b∨(c' = c∧∃ id,μ1 id = some b)) hk (fun c b h=>.inl (haf.step.col c b h)) (fun c' b h=>by
    rcases h with h | ⟨_,id,h⟩
    · rcases haf.col c' b h with h2 | h2
      · exact .inl h2
      · exact .inr ⟨h2,(haf.hr.col c' b h).1⟩
    · exact .inr ⟨hnew id b h,haf.hr.lt id b h⟩) haf.fr.size
  refine ⟨_,μ,v,⟨k1,k2,⟨haf.fr.os,haf.fr.tape,haf.fr.output,haf.fr.size,fun b hb _=>hk b hb,fun id b e=>.inl e,haf.fr.drawn⟩,fun c' b h=>?_⟩,rfl,?_⟩
  · rcases h with h | ⟨_,id,h⟩
    · exact haf.col c' b h
    · exact .inr (hnew id b h)
  · exact mz_ok hg haf.hr (fun c b h=>.inl h) (fun id b e=>.inr ⟨rfl,id,e⟩) n d D v hz hrep
end Go.VL
end
section
namespace Go.VL
open Go
theorem OpRun.capNil {P:Program} {L:Lay} (hL:LayOk P L) {o:Oper} {st:St} {x:Operand} {t e:TypeId} {q:Bool} {k b:Nat} {z:DV} (ho:o.op = .call { callee:=.builtin .cap,args:=#[x],argTypes:=#[t] }) (ht:L t = some ⟨q,k,b,.slice e,z⟩) (hx:ev st.env x = .nils) :
    OpRun P o st (.int .i64 0) st.ob:=by
  refine OpRun.pure fun a w F μ hr he=>?_
  have hv:=he x
  rw [hx] at hv
  obtain ⟨desc,hu,rfl⟩:=(hL _ _ ht).und
  generalize hq:a.eval x = v at hv
  cases hv
  refine ⟨.int .i64 0,?_,.int⟩
  simp [execOp,ho,resolve,Sem.run_bind,Sem.run_pure,Result.andThen_ok,invoke,Go.builtin,Builtin.cap_,run_underlying hu,goInt,hq]
theorem GhostV.trunc {C:Ctx} {σ:List Ob} {t k:Nat} {xs:List DV} (hσ:C.σ0 = σ) (hf:Fixed σ) (hdd:C.dd = []:=by assumption):GhostV C (.sl σ.length xs.length 0 0) (σ ++ [.arr t k xs]) (.sl σ.length 0 0 0) (σ ++ [.arr t k []]):=by
  intro a w v F μ h r
  have hno:∀ d v,NoId σ.length d→Rep w F μ (σ ++ [.arr t k xs]) d v→Rep w F μ (σ ++ [.arr t k []]) d v:=by
    intro d v hn h
    have:=Rep.fz (F':=F) (μ':=μ) (σ':=σ ++ [.arr t k []]) (id:=σ.length) (N:=xs.length) (r:=fun _ _=>.undef) (fun _ _=>rfl) (fun _ _ h=>h) (fun _ _=>rfl) (fun i o hi ho=>by
      rw [push_get,if_neg hi] at ho
      exact ⟨o,by rw [push_get,if_neg hi]; exact ho,by
        cases o with
        | arr t k xs=>exact ⟨xs,rfl,rfl⟩
        | oth t ds=>exact ⟨ds,rfl⟩
        | dead=>rfl⟩) (fun _ _ _ _ _=>.undef) h
    rwa [hn] at this
  have hst:∀ (i:Nat) (o:Ob),σ[i]? = some o→(σ ++ [Ob.arr t k []])[i]? = some o:=fun i o ho=>by
    have:=(List.getElem?_eq_some_iff.1 ho).1
    rw [push_get,if_neg (by omega)]; exact ho
  have hob:HR w F μ (σ ++ [.arr t k []]):=by
    refine ⟨fun i o ho=>?_,fun i hi=>h.hr.out i (by simp at hi ⊢; omega),h.hr.inj,h.hr.lt,h.hr.col⟩
    rw [push_get] at ho
    by_cases hi:i = σ.length
    · rw [if_pos hi] at ho
      cases ho
      subst hi
      obtain ⟨_,h2⟩:=h.hr.obj σ.length (.arr t k xs) (by rw [push_get,if_pos rfl])
      refine ⟨by simp,?_⟩
      rcases h2 with ⟨_,hmu⟩ | ⟨b,cur,fr,h3,h4,h5,_⟩
      · exact .inl ⟨rfl,hmu⟩
      · exact .inr ⟨b,cur,fr,h3,h4,h5,fun j i x d hx=>by simp at hx⟩
    · rw [if_neg hi] at ho
      have hil:=(List.getElem?_eq_some_iff.1 ho).1
      have hold:=h.hr.obj i o (by rw [push_get,if_neg hi]; exact ho)
      have hfo:∀ N r,fzOb σ.length N r o = o:=fun N r=>by
        have:=congrArg (fun l=>l[i]?) (hf σ.length (Nat.le_refl _) N r)
        simp only [List.getElem?_map,ho,Option.map_some,Option.some.injEq] at this
        exact this
      cases o with
      | arr t' k' zs =>
        have hz:∀ x ∈ zs,NoId σ.length x:=obNoId_arr.1 hfo
        refine ⟨hold.1,?_⟩
        rcases hold.2 with e | ⟨b,cur,fr,h3,h4,h5,h6⟩
        · exact .inl e
        · refine .inr ⟨b,cur,fr,h3,h4,h5,fun j i x d hx hd=>?_⟩
          obtain ⟨v,g1,g2⟩:=h6 j i x d hx hd
          refine ⟨v,g1,hno d v ?_ g2⟩
          have hxn:=hz x (List.mem_of_getElem? hx)
          cases x with
          | agg cs=>exact (noId_agg cs).1 hxn d (List.mem_of_getElem? hd)
          | _ =>
            cases i with
            | zero=>simp only [DV.cells,List.getElem?_cons_zero,Option.some.injEq] at hd; subst hd; exact hxn
            | succ i=>simp [DV.cells] at hd
      | oth t' ds =>
        have hz:∀ x ∈ ds,NoId σ.length x:=obNoId_oth.1 hfo
        obtain ⟨h1,vs,h2,h3,h4⟩:=hold
        refine ⟨fun q hq=>?_,vs,h2,h3,fun q d v hd hv=>hno d v (hz d (List.mem_of_getElem? hd)) (h4 q d v hd hv)⟩
        obtain ⟨t2,es,g⟩:=h1 q hq
        rw [push_get] at g
        by_cases hqs:q = σ.length
        · rw [if_pos hqs] at g; cases g
        · rw [if_neg hqs] at g
          exact ⟨t2,es,hst _ _ g⟩
      | dead=>exact hold
  refine ⟨F,μ,⟨hob,fun _=>.undef,⟨h.step.imm,h.step.col,fun i o ho=>?_,fun i t' k' zs ys hz hy he=>?_,fun i tt es hi=>h.step.othsame i tt es hi⟩,h.fr,h.col,h.size,?_⟩,?_⟩
  · rw [hσ] at ho
    exact ⟨o,hst i o ho,Ob.ext_refl o⟩
  · have hz':=hz
    rw [hσ] at hz'
    have hil:=(List.getElem?_eq_some_iff.1 hz').1
    refine h.step.same i t' k' zs ys hz ?_ he
    rw [push_get,if_neg (by omega)] at hy ⊢
    exact hy
  · rw [hdd]
    have:=h.defers
    rw [hdd] at this
    exact this
  · cases r with
    | @sl _ _ _ _ A cap hs =>
      refine .sl ?_
      obtain ⟨t2,k2,xs2,ho2,q1,q2,q3,q4,q5⟩:=hs
      rw [push_get,if_pos rfl] at ho2
      cases ho2
      refine ⟨t,k,[],by rw [push_get,if_pos rfl],by omega,by omega,q3,q4,fun _=>?_⟩
      rcases q5 rfl with ⟨_,f2,f3,f4⟩ | ⟨b,cur,fr,f1,f2,f3,f4,f5⟩
      · exact .inl ⟨rfl,f2,f3,f4⟩
      · exact .inr ⟨b,cur,fr,f1,f2,f3,f4,f5⟩
noncomputable def growX (e:Nat) (args:List DV) (m:Mm):Option (Out × Mm):=match args with
  | [.nils,.int .i64 (.ofNat n)]=>bx (Nat.beq n 0) (some (.ret .nils,m)) (bx (Nat.ble n 1048576) (some (.ret (.sl m.n 0 0 0),pushX m (.arr e 1 0 true []))) none)
  | _=>none
theorem growX_ok {P:Program} {f e:Nat} (h0:∀ σ,Ok P f [.nils,.int .i64 0] σ (.ret .nils) σ) (h1:∀ (n:Nat) σ,0 < n→n≤1048576→Ok P f [.nils,.int .i64 (n:Int)] σ (.ret (.sl σ.length 0 0 0)) (σ ++ [.arr e 1 []])) {args:List DV} {m m':Mm} {out:Out}
    (h:growX e args m = some (out,m')) (hm:Good m):Good m'∧Ok P f args m.obs out m'.obs:=by
  unfold growX at h
  split at h
  · rename_i n
    rw [beq_if] at h
    split at h
    · rename_i hn
      subst hn
      cases h
      exact ⟨hm,h0 _⟩
    · rename_i hn
      rw [ble_if] at h
      split at h <;> cases h
      rename_i hle
      have hp:=MmOf.push hm (x:=.arr e 1 0 true []) ⟨rfl,fun _=>rfl⟩
      refine ⟨hp.goodm,?_⟩
      have:=h1 n m.obs (by omega) hle
      rw [show m.n = m.obs.length from MmOf.n hm]
      rw [show (pushX m (.arr e 1 0 true [])).obs = m.obs ++ [.arr e 1 []] from hp.obs.symm]
      exact this
  · cases h
end Go.VL
end
section
namespace Go.VL
open Go
def TrAll {α:Type} (p:Nat→α→Prop):Tr α→(Nat→Nat)→Prop
  | .e,_=>True
  | .n o l r,g=>p (g 0) o∧TrAll p l (fun j=>g (2 * j+1))∧TrAll p r (fun j=>g (2 * j+2))
theorem TrAll.get {α:Type} {p:Nat→α→Prop}:∀ (t:Tr α) (g:Nat→Nat),TrAll p t g→∀ (i:Nat) (x:α),t.get i = some x→p (g i) x
  | .e,g,_,i,x,h=>by cases h
  | .n o l r,g,⟨h0,h1,h2⟩,i,x,h=>by
    rw [Tr.get_n] at h
    by_cases hi:i = 0
    · subst hi
      rw [if_pos rfl] at h
      cases h
      exact h0
    · rw [if_neg hi] at h
      by_cases hm:i % 2 = 1
      · rw [if_pos hm] at h
        have:=TrAll.get l _ h1 _ x h
        simpa only [show 2 * (i / 2)+1 = i by omega] using this
      · rw [if_neg hm] at h
        have:=TrAll.get r _ h2 _ x h
        simpa only [show 2 * (i / 2 - 1)+2 = i by omega] using this
def FtOk (P:Program) (f:Nat):FT→Prop
  | .code x=>FnOk P f x
  | .nat g=>∀ (args:List DV) (m:Mm) (out:Out) (m':Mm),g args m = some (out,m')→Good m→Good m'∧Ok P f args m.obs out m'.obs
  | .none=>True
noncomputable def tabOf (t:Tr FT):Nat→FT:=fun f=>match t.get f with
  | some x=>x
  | none=>.none
theorem tabOf_ok {P:Program} {t:Tr FT} (h:TrAll (FtOk P) t (fun j=>j)):TabOk P (tabOf t):=by
  refine ⟨fun f x hx=>?_,fun f g args m out m' hg hr hm=>?_⟩
  · unfold tabOf at hx
    split at hx
    · rename_i y hy
      subst hx
      exact TrAll.get t _ h f _ hy
    · cases hx
  · unfold tabOf at hg
    split at hg
    · rename_i y hy
      subst hg
      exact TrAll.get t _ h f _ hy args m out m' hr hm
    · cases hg
noncomputable def layOf (t:Tr (Option TI)):Lay:=fun k=>match t.get k with
  | some (some i)=>some i
  | _=>none
theorem layOf_ok {P:Program} {t:Tr (Option TI)} (h:TrAll (fun k (i:Option TI)=>∀ x,i = some x→TOk P k x) t (fun j=>j)):LayOk P (layOf t):=by
  intro k i hk
  unfold layOf at hk
  split at hk
  · rename_i y hy
    cases hk
    exact TrAll.get t _ h k _ hy i rfl
  · cases hk
noncomputable def runs (L:Lay) (T:Nat→FT) (fuel:Nat) (f:Nat) (args:List DV) (D:DV):Bool:=match call1 L T (xexec L T fuel) (.fn f []) args ⟨.e,0⟩ with
  | .ok (.ret d) m=>mz 12 m 0 d D
  | _=>false
theorem good0:Good ⟨.e,0⟩:=by
  have h:MmOf ⟨.e,0⟩ []:=⟨rfl,rfl,fun i=>rfl,fun i o h=>by cases h⟩
  exact h.goodm
theorem obs0:(⟨.e,0⟩:Mm).obs = []:=rfl
theorem runs_ok {P:Program} {L:Lay} {T:Nat→FT} (hL:LayOk P L) (hmx:P.follows .mixedOrders = true) (hT:TabOk P T) {fuel f:Nat} {args:List DV} {D:DV} (h:runs L T fuel f args D = true) (ha:∀ x ∈ args,Low 0 x) (σ:List Ob):Ok P f args σ (.ret D) σ:=by
  unfold runs at h
  split at h
  · rename_i d m hk
    obtain ⟨g1,g2⟩:=ok_of_call hL hmx hT fuel hk good0
    rw [obs0] at g2
    exact Ok.freeze g2 g1 h ha σ
  · cases h
end Go.VL
end
