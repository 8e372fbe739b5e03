/- Proved: TreeTells: whatever tree, root, key and number come in (together of bulk at most 1048576), the call returns true and they read as they did; no other condition. This text is part 3 of 18. -/
import Derived.Test.YtghomgiklhbjiaaW02
set_option linter.unusedSimpArgs false
set_option linter.unusedVariables false
section
namespace Go.VL
open Go
theorem own_get {α:Type} (σ l:List α) (k:Nat):(σ ++ l)[σ.length+k]? = l[k]?:=by rw [List.getElem?_append_right (by omega),Nat.add_sub_cancel_left]
theorem own_get0 {α:Type} (σ l:List α):(σ ++ l)[σ.length]? = l[0]?:=own_get σ l 0
theorem own_set {α:Type} (σ l:List α) (k:Nat) (a:α):(σ ++ l).set (σ.length+k) a = σ ++ l.set k a:=by rw [List.set_append_right _ _ (by omega),Nat.add_sub_cancel_left]
theorem own_set0 {α:Type} (σ l:List α) (a:α):(σ ++ l).set σ.length a = σ ++ l.set 0 a:=own_set σ l 0 a
def Low (n:Nat) (d:DV):Prop:=∀ id,n≤id→NoId id d
section
variable {n:Nat}
theorem low_int (k:IntKind) (m:Int):Low n (.int k m) ↔ True:=iff_of_true (fun _ _=>(noId_int _ _).2 trivial) trivial
theorem low_bool (b:Bool):Low n (.bool b) ↔ True:=iff_of_true (fun _ _=>(noId_bool _).2 trivial) trivial
theorem low_str (b:ByteArray):Low n (.str b) ↔ True:=iff_of_true (fun _ _=>(noId_str _).2 trivial) trivial
theorem low_nils:Low n .nils ↔ True:=iff_of_true (fun _ _=>noId_nils.2 trivial) trivial
theorem low_nilp:Low n .nilp ↔ True:=iff_of_true (fun _ _=>noId_nilp.2 trivial) trivial
theorem low_nilf:Low n .nilf ↔ True:=iff_of_true (fun _ _=>noId_nilf.2 trivial) trivial
theorem low_nili:Low n .nili ↔ True:=iff_of_true (fun _ _=>noId_nili.2 trivial) trivial
theorem low_skip:Low n .skip ↔ True:=iff_of_true (fun _ _=>noId_skip.2 trivial) trivial
theorem low_undef:Low n .undef ↔ True:=iff_of_true (fun _ _=>noId_undef.2 trivial) trivial
theorem low_list {xs:List DV}:(∀ id,n≤id→∀ x ∈ xs,NoId id x) ↔ ∀ x ∈ xs,Low n x:=⟨fun h x hx id hi=>h id hi x hx,fun h id hi x hx=>h x hx id hi⟩
theorem low_vec (c k:Nat) (xs:List DV):Low n (.vec c k xs) ↔ ∀ x ∈ xs,Low n x:=by
  rw [← low_list]; exact ⟨fun h id hi=>(noId_vec _ _ _).1 (h id hi),fun h id hi=>(noId_vec _ _ _).2 (h id hi)⟩
theorem low_agg (xs:List DV):Low n (.agg xs) ↔ ∀ x ∈ xs,Low n x:=by
  rw [← low_list]; exact ⟨fun h id hi=>(noId_agg _).1 (h id hi),fun h id hi=>(noId_agg _).2 (h id hi)⟩
theorem low_tup (xs:List DV):Low n (.tup xs) ↔ ∀ x ∈ xs,Low n x:=by
  rw [← low_list]; exact ⟨fun h id hi=>(noId_tup _).1 (h id hi),fun h id hi=>(noId_tup _).2 (h id hi)⟩
theorem low_fn (f:FuncId) (xs:List DV):Low n (.fn f xs) ↔ ∀ x ∈ xs,Low n x:=by
  rw [← low_list]; exact ⟨fun h id hi=>(noId_fn _ _).1 (h id hi),fun h id hi=>(noId_fn _ _).2 (h id hi)⟩
theorem low_vptr (c:Nat) (xs:List DV):Low n (.vptr c xs) ↔ ∀ x ∈ xs,Low n x:=by
  rw [← low_list]; exact ⟨fun h id hi=>(noId_vptr _ _).1 (h id hi),fun h id hi=>(noId_vptr _ _).2 (h id hi)⟩
theorem low_iface (t:Nat) (x:DV):Low n (.iface t x) ↔ Low n x:=⟨fun h id hi=>(noId_iface _ _).1 (h id hi),fun h id hi=>(noId_iface _ _).2 (h id hi)⟩
theorem low_id {i:Nat}:(∀ id,n≤id→i ≠ id) ↔ i < n:=⟨fun h=>Nat.lt_of_not_le fun hi=>h i hi rfl,fun h id hi e=>by omega⟩
theorem low_ptr (i g j o:Nat):Low n (.ptr i g j o) ↔ i < n:=by
  rw [← low_id]; exact ⟨fun h id hi=>(noId_ptr' _ _ _ _).1 (h id hi),fun h id hi=>(noId_ptr' _ _ _ _).2 (h id hi)⟩
theorem low_sl (i g off len:Nat):Low n (.sl i g off len) ↔ i < n:=by
  rw [← low_id]; exact ⟨fun h id hi=>(noId_sl' _ _ _ _).1 (h id hi),fun h id hi=>(noId_sl' _ _ _ _).2 (h id hi)⟩
theorem low_slx (i g off len cap:Nat):Low n (.slx i g off len cap) ↔ i < n:=by
  rw [← low_id]; exact ⟨fun h id hi=>(noId_slx' _ _ _ _ _).1 (h id hi),fun h id hi=>(noId_slx' _ _ _ _ _).2 (h id hi)⟩
theorem low_emp:Low n .emp ↔ True:=iff_of_true (fun _ _=>noId_emp.2 trivial) trivial
theorem low_it (i:Nat):Low n (.it i) ↔ i < n:=by
  rw [← low_id]; exact ⟨fun h id hi=>(noId_it' _).1 (h id hi),fun h id hi=>(noId_it' _).2 (h id hi)⟩
theorem low_yld (i:Nat):Low n (.yld i) ↔ i < n:=by
  rw [← low_id]; exact ⟨fun h id hi=>(noId_yld' _).1 (h id hi),fun h id hi=>(noId_yld' _).2 (h id hi)⟩
theorem low_mp (i:Nat):Low n (.mp i) ↔ i < n:=by
  rw [← low_id]; exact ⟨fun h id hi=>(noId_mp' _).1 (h id hi),fun h id hi=>(noId_mp' _).2 (h id hi)⟩
end
def lowOb (n:Nat):Ob→Prop
  | .arr _ _ xs=>∀ x ∈ xs,Low n x
  | .oth _ ds=>∀ x ∈ ds,Low n x
  | .dead=>True
def isArr:Ob→Prop
  | .arr ..=>True
  | _=>False
def lowObs (n:Nat):List Ob→Prop
  | []=>True
  | o :: r=>lowOb n o∧lowObs n r
def tmpObs (n:Nat):List Ob→Prop
  | []=>True
  | o :: r=>isArr o∧lowOb n o∧tmpObs n r
def lowEnv (n:Nat):List (Nat × DV)→Prop
  | []=>True
  | p :: r=>Low n p.2∧lowEnv n r
theorem lowOb_noId {n id:Nat} {o:Ob} (h:lowOb n o) (hi:n≤id):ObNoId id o:=by
  cases o with
  | arr t k xs=>exact obNoId_arr.2 fun x hx=>h x hx id hi
  | oth t ds=>exact obNoId_oth.2 fun x hx=>h x hx id hi
  | dead=>exact obNoId_dead.2 trivial
theorem lowObs_noId {n id:Nat} (hi:n≤id):∀ {l:List Ob},lowObs n l→obsNoId id l
  | [],_=>trivial
  | _ :: _,h=>⟨lowOb_noId h.1 hi,lowObs_noId hi h.2⟩
theorem lowEnv_noId {n id:Nat} (hi:n≤id):∀ {l:List (Nat × DV)},lowEnv n l→envNoId id l
  | [],_=>trivial
  | _ :: _,h=>⟨h.1 id hi,lowEnv_noId hi h.2⟩
theorem tmpObs_append {n:Nat}:∀ {a b:List Ob},tmpObs n (a ++ b)→tmpObs n a∧tmpObs n b
  | [],_,h=>⟨trivial,h⟩
  | _ :: _,_,h=>⟨⟨h.1,h.2.1,(tmpObs_append h.2.2).1⟩,(tmpObs_append h.2.2).2⟩
theorem obsNoId_append {id:Nat}:∀ {a b:List Ob},obsNoId id a→obsNoId id b→obsNoId id (a ++ b)
  | [],_,_,h=>h
  | _ :: _,_,h,k=>⟨h.1,obsNoId_append h.2 k⟩
theorem tmpObs_noId {n id:Nat} (hi:n≤id):∀ {l:List Ob},tmpObs n l→obsNoId id l
  | [],_=>trivial
  | _ :: _,h=>⟨lowOb_noId h.2.1 hi,tmpObs_noId hi h.2.2⟩
theorem Ghost.clear {C:Ctx} {env:List (Nat × DV)} {σ own tmp:List Ob} (l:List (Nat × DV)) (hσ:C.σ0 = σ) (hf:Fixed σ) (hl:agree env l) (he:lowEnv (σ ++ own).length l) (ho:lowObs (σ ++ own).length own) (ht:tmpObs (σ ++ own).length tmp) (hdd:C.dd = []:=by assumption) :
    Ghost C ⟨env,σ ++ (own ++ tmp)⟩ ⟨l,σ ++ own⟩:=by
  refine Ghost.trans (Ghost.weak (Weak.of_agree rfl hl)) ?_
  have key:∀ (n:Nat) (tmp:List Ob),tmp.length = n→tmpObs (σ ++ own).length tmp→Ghost C ⟨l,σ ++ (own ++ tmp)⟩ ⟨l,σ ++ own⟩:=by
    intro n
    induction n with
    | zero =>
      intro tmp hn _
      obtain rfl:=List.eq_nil_of_length_eq_zero hn
      rw [List.append_nil]
      exact Ghost.refl _ _
    | succ n ih =>
      intro tmp hn ht
      obtain ⟨r,o,rfl⟩:∃ r o,tmp = r ++ [o]:=⟨tmp.dropLast,tmp.getLast (by intro e; simp [e] at hn),(List.dropLast_concat_getLast _).symm⟩
      obtain ⟨h1,h2⟩:=tmpObs_append ht
      cases o with
      | arr t k xs =>
        refine Ghost.trans ?_ (ih r (by simpa using hn) h1)
        have hN:(σ ++ own).length≤(σ ++ (own ++ r)).length:=by simp
        have:=Ghost.pop (C:=C) (env:=l) (ob:=σ ++ (own ++ r)) (t:=t) (k:=k) (xs:=xs) 0 (by rw [hσ]; simp) (fun x hx=>h2.2.1 x hx _ hN) (by rw [hdd]; trivial)
        rw [envNoId_fz (lowEnv_noId hN he),obs_fix (fun N r=>hf _ (by simp) N r) (obsNoId_append (lowObs_noId hN ho) (tmpObs_noId hN h1))] at this
        simpa using this
      | oth t ds=>exact h2.1.elim
      | dead=>exact h2.1.elim
  exact key _ tmp rfl ht
theorem GhostV.clear {C:Ctx} {d:DV} {σ own tmp:List Ob} (hn:0 < C.n) (hσ:C.σ0 = σ) (hf:Fixed σ) (hd:Low (σ ++ own).length d) (ho:lowObs (σ ++ own).length own) (ht:tmpObs (σ ++ own).length tmp) (hdd:C.dd = []:=by assumption):GhostV C d (σ ++ (own ++ tmp)) d (σ ++ own) :=
  GhostV.of hn (Ghost.clear [(0,d)] hσ hf ⟨rfl,trivial⟩ ⟨hd,trivial⟩ ho ht)
theorem GhostV.none {C:Ctx} {d:DV} {σ l:List Ob} (hn:0 < C.n) (hσ:C.σ0 = σ) (hf:Fixed σ) (hd:Low σ.length d) (ht:tmpObs σ.length l) (hdd:C.dd = []:=by assumption):GhostV C d (σ ++ l) d σ:=by
  have:=GhostV.clear (C:=C) (d:=d) (σ:=σ) (own:=[]) (tmp:=l) hn hσ hf (by simpa using hd) trivial (by simpa using ht)
  simpa using this
theorem OpDo.of {P:Program} {o:Oper} {st:St} {d:DV} {ob':List Ob} (h:OpRun P o st d ob'):OpDo P o st (.ret d) ob':=by
  intro ro a w F μ K' Q hh he hk
  obtain ⟨r,w',μ',v,hrun,hv,hh',hst,hfr,hrep⟩:=h a w F μ hh he
  have:=hk v w' F μ' ⟨hh',hst,hfr,fun c b h=>.inl h⟩ hrep
  refine wpIn_of_wp (.inr fun c hc=>?_) ?_
  · obtain ⟨d',rfl⟩:=execOp_defer hc hrun
    rcases hv with e | ⟨e,_⟩ <;> cases e
  unfold Oper.wp
  rw [hrun]
  rcases hv with rfl | ⟨rfl,rfl⟩
  · exact this
  · exact this
theorem rng1:List.range 1 = [0]:=rfl
theorem rng2:List.range 2 = [0,1]:=rfl
theorem rng3:List.range 3 = [0,1,2]:=rfl
theorem rng4:List.range 4 = [0,1,2,3]:=rfl
theorem DCall.pure1 {C:Ctx} {P:Program} {φ:List (List Ob)} {D:DI} {p q:Nat} {o:Oper} {env:List (Nat × DV)} {last:Bool} {K:XE→St→Prop} {next:DV→Prop} {g:Operand} {xs:Array Operand} {ts:Array TypeId} {f:FuncId} {args caps:List DV} {d:DV} {σ:List Ob}
    (hP:C.P = P) (hok:Ok P f args σ (.ret d) σ) (hq:D.ph = [q]) (hs:φ.getD q [] = σ) (he:D.eff = false) (ho:o.op = .call { callee:=.value g,args:=xs,argTypes:=ts }) (hf:ev env g = .fn f caps)
    (ha:xs.toList.map (ev env) ++ caps = args) (h:next d):DCall C φ D p o env last K next :=
  DCall.pure hP (fun r hr=>by rw [hq] at hr; obtain rfl:=List.mem_singleton.1 hr; rw [hs]; exact hok) he ho hf ha h
theorem Ghost.none {C:Ctx} {env:List (Nat × DV)} {σ tmp:List Ob} (l:List (Nat × DV)) (hσ:C.σ0 = σ) (hf:Fixed σ) (hl:agree env l) (he:lowEnv σ.length l) (ht:tmpObs σ.length tmp) (hdd:C.dd = []:=by assumption):Ghost C ⟨env,σ ++ tmp⟩ ⟨l,σ⟩:=by
  have:=Ghost.clear (C:=C) (env:=env) (σ:=σ) (own:=[]) (tmp:=tmp) l hσ hf hl (by simpa using he) trivial (by simpa using ht)
  simpa using this
end Go.VL
end
