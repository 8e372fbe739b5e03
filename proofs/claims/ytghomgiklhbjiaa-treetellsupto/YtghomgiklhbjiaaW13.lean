/- Proved: TreeTells: whatever tree, root, key and number come in (together of bulk at most 1048576), the call returns true and they read as they did; no other condition. This text is part 13 of 18. -/
import Derived.Test.YtghomgiklhbjiaaW12
import Derived.KernelRfl
set_option linter.unusedSimpArgs false
set_option linter.unusedVariables false
section
set_option maxRecDepth 10000
set_option maxHeartbeats 2000000
namespace Go.VL
open Go Go.Proofs
open Nat renaming reduceAdd → ja, reduceEqDiff → jb, reduceSub → jc, reduceMul → jd, reduceLeDiff → je, reduceBEq → jf, reduceLT → jg
open Int renaming reduceLT → jh, reduceLE → ji
open Go.VL renaming thenK → jk, blockK → jl, loopK → jm, loopG → jn
def rngGo (key:Int) (n:Int):List It→List It→List It
  | [],out=>out
  | x :: r,out=>if (out.length:Int) = n then out else if x.1 < key then rngGo key n r out else rngGo key n r (out ++ [x])
def rangeF (ps:List Pg) (root key n:Int):List It × Int :=
  if (treeF ps root).2 ≠ 0 then ([],(treeF ps root).2) else if n < 0 then ([],4) else (rngGo key n (treeF ps root).1.items [],0)
theorem range_ok (c:Nat) (ps:List Pg) (root key n:Int) (σ:List Ob):Ok Try.prog 12 [.agg [pgsD c ps],.int .i64 root,.int .u64 key,.int .i64 n] σ (.ret (.tup [.vec 0 2 ((rangeF ps root key n).1.map eT),.int .i64 (rangeF ps root key n).2])) σ:=by
  have h0:=readOk_ok c ps root
  have h1:=readErr_ok c ps root
  obtain ⟨R,hR⟩:∃ R:Out→List Ob→Prop,R = fun o O=>o = .ret (.tup [.vec 0 2 ((rangeF ps root key n).1.map eT),.int .i64 (rangeF ps root key n).2])∧O = σ:=⟨_,rfl⟩
  have fin:∀ (d:DV) (l:List It) (e:Int) (G:List Ob),rangeF ps root key n = (l,e)→Gz (σ ++ G) 0 σ.length none d (.vec 0 2 (l.map eT))→Tid σ 0 R (.ret (.tup [d,.int .i64 e])) (σ ++ G):=by
    intro d l e G h hz
    refine Tid.none (.tup2 hz (.low ((low_int _ _).2 trivial))) ?_
    rw [hR]; exact ⟨by rw [h],rfl⟩
  refine OkE.ok (OkE.tidy (c:=0) (R:=R) ?_) (fun o O h=>by rw [hR] at h; exact h)
  have hlen:=treeF_len ps root
  obtain ⟨w,hw⟩:∃ w,w = (treeF ps root).1:=⟨_,rfl⟩
  obtain ⟨e,he⟩:∃ e,e = (treeF ps root).2:=⟨_,rfl⟩
  have hF:rangeF ps root key n = if e ≠ 0 then ([],e) else if n < 0 then ([],4) else (rngGo key n w.items [],0):=by
    unfold rangeF; rw [← he,← hw]
  rw [← hw] at hlen
  rw [← he,← hw] at h0
  rw [← he] at h1
  simp only [readObs,wW,wI] at h0
  obtain ⟨MM,hMM⟩:∃ MM,MM = wM w:=⟨_,rfl⟩
  obtain ⟨P,hPe⟩:∃ P,P = pgsD c ps:=⟨_,rfl⟩
  obtain ⟨IX,hIX⟩:∃ IX,IX = w.items.map eT:=⟨_,rfl⟩
  obtain ⟨N,hN⟩:∃ N,N = w.items.length:=⟨_,rfl⟩
  have hIXl:IX.length = N:=by rw [hIX,hN,List.length_map]
  simp only [← hMM,← hPe,← hIX,← hN] at h0 h1 ⊢
  rw [← hN] at hlen
  have hN64:N≤12884901888:=Nat.le_trans hlen (by decide)
  refine OkE.of_body2 layOk Try.func12 rfl (by decide) (by simp [Try.ntmps12]) fun C hP hn hrd hσ hfix hdd=>?_
  rw [show Try.f12.ntmps = 51 from rfl] at hn
  have hL:LayOk C.P L:=hP ▸ layOk
  have hm:C.P.follows .mixedOrders = true:=hP ▸ mixed
  by_cases hne:e ≠ 0
  · rw [if_pos hne] at hF
    have d1:(e != 0) = true:=by simpa using hne
    repeat (first|((first|refine sA hL hn rfl ?_|refine sB hL hn rfl ?_);simp only [go_sem,jf,jh,ji,ja,jb,reduceIte,jc,jg,jd,je,reduceCtorEq])|((first|refine sC ?_|refine sH ?_|refine sI ?_|refine sJ ?_);try simp only [jk,jl,jm,jn,if_true,if_false,jb])|refine sD ?_|refine sE ?_|refine sF rfl ?_|refine sG rfl ?_)
    refine SW.scope hrd ?_
    repeat (first|((first|refine sA hL hn rfl ?_|refine sB hL hn rfl ?_);simp only [go_sem,jf,jh,ji,ja,jb,reduceIte,jc,jg,jd,je,reduceCtorEq])|((first|refine sC ?_|refine sH ?_|refine sI ?_|refine sJ ?_);try simp only [jk,jl,jm,jn,if_true,if_false,jb])|refine sD ?_|refine sE ?_|refine sF rfl ?_|refine sG rfl ?_)
    refine sK hP hL hn rfl rfl (h1 hne _) rfl rfl rfl rfl ?_; simp (maxSteps:=2000000) only [go_sem,jf,jh,ji,ja,jb,reduceIte,jc,jg,jd,je,reduceCtorEq]
    repeat (first|((first|refine sA hL hn rfl ?_|refine sB hL hn rfl ?_);simp only [go_sem,jf,jh,ji,ja,jb,reduceIte,jc,jg,jd,je,reduceCtorEq,d1])|((first|refine sC ?_|refine sH ?_|refine sI ?_|refine sJ ?_);try simp only [jk,jl,jm,jn,if_true,if_false,jb])|refine sD ?_|refine sE ?_|refine sF rfl ?_|refine sG rfl ?_)
    refine ⟨_,_,?_,_,(.tup [.nils,.int .i64 e]),_,Ghost.refl _ _,?_,GhostV.refl _ _ _,rfl⟩
    rotate_left
    show resDV L _ [Go.ResultVar.tmp 8,Go.ResultVar.tmp 9] = _
    simp only [resDV,resL,resDV1,go_sem,jf,jh,ji,ja,jb,reduceIte,jc,jg,jd,je,reduceCtorEq]
    exact fin _ [] e _ hF .nil
  rw [if_neg hne] at hF
  have he0:e = 0:=by omega
  have d1:((0:Int) != 0) = false:=rfl
  by_cases hn0:n < 0
  · rw [if_pos hn0] at hF
    have d2:decide (n < 0) = true:=decide_eq_true hn0
    repeat (first|((first|refine sA hL hn rfl ?_|refine sB hL hn rfl ?_);simp only [go_sem,jf,jh,ji,ja,jb,reduceIte,jc,jg,jd,je,reduceCtorEq])|((first|refine sC ?_|refine sH ?_|refine sI ?_|refine sJ ?_);try simp only [jk,jl,jm,jn,if_true,if_false,jb])|refine sD ?_|refine sE ?_|refine sF rfl ?_|refine sG rfl ?_)
    refine SW.scope hrd ?_
    repeat (first|((first|refine sA hL hn rfl ?_|refine sB hL hn rfl ?_);simp only [go_sem,jf,jh,ji,ja,jb,reduceIte,jc,jg,jd,je,reduceCtorEq])|((first|refine sC ?_|refine sH ?_|refine sI ?_|refine sJ ?_);try simp only [jk,jl,jm,jn,if_true,if_false,jb])|refine sD ?_|refine sE ?_|refine sF rfl ?_|refine sG rfl ?_)
    refine sK hP hL hn rfl rfl (h0 he0 _) rfl rfl rfl rfl ?_; simp (maxSteps:=2000000) only [go_sem,jf,jh,ji,ja,jb,reduceIte,jc,jg,jd,je,reduceCtorEq]
    repeat (first|((first|refine sA hL hn rfl ?_|refine sB hL hn rfl ?_);simp only [go_sem,jf,jh,ji,ja,jb,reduceIte,jc,jg,jd,je,reduceCtorEq,d1,d2])|((first|refine sC ?_|refine sH ?_|refine sI ?_|refine sJ ?_);try simp only [jk,jl,jm,jn,if_true,if_false,jb])|refine sD ?_|refine sE ?_|refine sF rfl ?_|refine sG rfl ?_)
    refine ⟨_,_,?_,_,(.tup [.nils,.int .i64 4]),_,Ghost.refl _ _,?_,GhostV.refl _ _ _,rfl⟩
    rotate_left
    show resDV L _ [Go.ResultVar.tmp 8,Go.ResultVar.tmp 9] = _
    simp only [resDV,resL,resDV1,go_sem,jf,jh,ji,ja,jb,reduceIte,jc,jg,jd,je,reduceCtorEq]
    exact fin _ [] 4 _ hF .nil
  rw [if_neg hn0] at hF
  have d2:decide (n < 0) = false:=decide_eq_false hn0
  repeat (first|((first|refine sA hL hn rfl ?_|refine sB hL hn rfl ?_);simp only [go_sem,jf,jh,ji,ja,jb,reduceIte,jc,jg,jd,je,reduceCtorEq])|((first|refine sC ?_|refine sH ?_|refine sI ?_|refine sJ ?_);try simp only [jk,jl,jm,jn,if_true,if_false,jb])|refine sD ?_|refine sE ?_|refine sF rfl ?_|refine sG rfl ?_)
  refine SW.scope hrd ?_
  repeat (first|((first|refine sA hL hn rfl ?_|refine sB hL hn rfl ?_);simp only [go_sem,jf,jh,ji,ja,jb,reduceIte,jc,jg,jd,je,reduceCtorEq])|((first|refine sC ?_|refine sH ?_|refine sI ?_|refine sJ ?_);try simp only [jk,jl,jm,jn,if_true,if_false,jb])|refine sD ?_|refine sE ?_|refine sF rfl ?_|refine sG rfl ?_)
  refine sK hP hL hn rfl rfl (h0 he0 _) rfl rfl rfl rfl ?_; simp (maxSteps:=2000000) only [go_sem,jf,jh,ji,ja,jb,reduceIte,jc,jg,jd,je,reduceCtorEq]
  repeat (first|((first|refine sA hL hn rfl ?_|refine sB hL hn rfl ?_);simp only [go_sem,jf,jh,ji,ja,jb,reduceIte,jc,jg,jd,je,reduceCtorEq,d1,d2])|((first|refine sC ?_|refine sH ?_|refine sI ?_|refine sJ ?_);try simp only [jk,jl,jm,jn,if_true,if_false,jb])|refine sD ?_|refine sE ?_|refine sF rfl ?_|refine sG rfl ?_)
  refine SW.label ?_
  simp only [thenK]
  refine SW.ghost (Ghost.newNil 12 27 2 rfl) ?_
  simp only [up,jb,reduceIte,List.length_nil]
  repeat (first|((first|refine sA hL hn rfl ?_|refine sB hL hn rfl ?_);simp only [go_sem,jf,jh,ji,ja,jb,reduceIte,jc,jg,jd,je,reduceCtorEq,hIXl])|((first|refine sC ?_|refine sH ?_|refine sI ?_|refine sJ ?_);try simp only [jk,jl,jm,jn,if_true,if_false,jb])|refine sD ?_|refine sE ?_|refine sF rfl ?_|refine sG rfl ?_)
  obtain ⟨r,hr⟩:∃ r,r = rngGo key n w.items []:=⟨_,rfl⟩
  rw [← hr] at hF
  refine SW.lpg (fun x:Nat × List It × List Ob=>⟨[(2,.int .u64 key),(3,.int .i64 n),(12,.sl (σ.length+7) x.2.1.length 0 x.2.1.length),(29,.sl (σ.length+6) N 0 N),(30,.int .i64 N),(31,.int .i64 x.1)],σ ++ (Ob.arr 29 1 [.agg [P]] :: .arr 29 1 [.agg [P]] :: .arr 68 1 [.ptr (σ.length+5) 1 0 0] :: .arr 31 1 [.int .i64 0] :: MM :: .arr 74 4 [.agg [P,.mp (σ.length+4),.sl (σ.length+6) N 0 N,.int .i64 w.leaf]] :: .arr 27 2 IX :: .arr 27 2 (x.2.1.map eT) :: x.2.2)⟩) (fun x=>N - x.1) (fun x=>x.1≤N∧x.2.1.length≤x.1∧r = rngGo key n (w.items.drop x.1) x.2.1) (0,[],[]) ⟨by simp,by simp,hr⟩ (.of (by simp) (by simp [agree,lk])) ?_
  rintro ⟨k,out,T⟩ ⟨hk,hout,hrest⟩
  simp only at hk hout hrest
  have dn:∀ (O:List DV),O = out.map eT→rangeF ps root key n = (out,0)→∀ T':List Ob,Tid σ 0 R (.ret (.tup [.sl (σ.length+7) out.length 0 out.length,.int .i64 0])) (σ ++ (Ob.arr 29 1 [.agg [P]] :: .arr 29 1 [.agg [P]] :: .arr 68 1 [.ptr (σ.length+5) 1 0 0] :: .arr 31 1 [.int .i64 0] :: MM :: .arr 74 4 [.agg [P,.mp (σ.length+4),.sl (σ.length+6) N 0 N,.int .i64 w.leaf]] :: .arr 27 2 IX :: .arr 27 2 O :: T')):=by
    intro O hO h T'
    have:=Gz.row (O:=σ ++ (Ob.arr 29 1 [.agg [P]] :: .arr 29 1 [.agg [P]] :: .arr 68 1 [.ptr (σ.length+5) 1 0 0] :: .arr 31 1 [.int .i64 0] :: MM :: .arr 74 4 [.agg [P,.mp (σ.length+4),.sl (σ.length+6) N 0 N,.int .i64 w.leaf]] :: .arr 27 2 IX :: .arr 27 2 O :: T')) (c:=0) (n:=σ.length) (J:=none) (id:=σ.length+7) (t:=27) (k:=2) (xs:=O) (by omega) (by simp) (by rw [own_get]; rfl) (fun x hx=>by rw [hO] at hx; obtain ⟨y,_,rfl⟩:=List.mem_map.1 hx; exact low_eT _ y)
    rw [hO,List.length_map] at this
    rw [hO]
    exact fin _ out 0 _ h this
  by_cases hlt:k < N
  · have e1:decide ((k:Int) < (N:Int)) = true:=decide_eq_true (by omega)
    have e2:(0≤(k:Int)∧(k:Int) < (N:Int)):=by omega
    have e4:k+1≤N:=by omega
    have hkl:k < w.items.length:=by omega
    obtain ⟨p,hp⟩:∃ p,p = w.items[k]'hkl:=⟨_,rfl⟩
    have e3:IX[k]? = some (eT p):=by rw [hIX,List.getElem?_map,List.getElem?_eq_getElem hkl,← hp]; rfl
    rw [List.drop_eq_getElem_cons hkl,← hp] at hrest
    simp only [rngGo] at hrest
    obtain ⟨p1,p2⟩:=p
    unfold eT at e3
    simp only at e3 hrest
    have w2:IntKind.i64.wrap ((k:Int)+1) = ((k+1:Nat):Int):=wi (by omega) (by omega)
    obtain ⟨O,hO⟩:∃ O,O = out.map eT:=⟨_,rfl⟩
    have hOl:O.length = out.length:=by rw [hO,List.length_map]
    have hcap:((out.length+1) * 16≤140737488355328) = True:=eq_true (by omega)
    have gT:∀ x:Ob,(T ++ [x])[T.length]? = some x:=fun x=>by simp
    have sT:∀ x y:Ob,(T ++ [x]).set T.length y = T ++ [y]:=fun x y=>by simp
    have gT2:∀ x y:Ob,(T ++ [x,y])[T.length]? = some x:=fun x y=>by simp
    have gT3:∀ x y:Ob,(T ++ [x,y])[T.length+1]? = some y:=fun x y=>by simp
    rw [← hO]
    by_cases hnl:(out.length:Int) = n
    · rw [if_pos hnl] at hrest
      have d3:((out.length:Int) == n) = true:=by simpa using hnl
      repeat (first|((first|refine sA hL hn rfl ?_|refine sB hL hn rfl ?_);simp only [go_sem,jf,jh,ji,ja,jb,reduceIte,jc,jg,jd,je,reduceCtorEq,e1,hIXl,e2,e3,e4,Int.toNat_natCast,gT,sT,d3])|((first|refine sC ?_|refine sH ?_|refine sI ?_|refine sJ ?_);try simp only [jk,jl,jm,jn,if_true,if_false,jb])|refine sD ?_|refine sE ?_|refine sF rfl ?_|refine sG rfl ?_)
      refine ⟨_,_,?_,_,(.tup [.sl (σ.length+7) out.length 0 out.length,.int .i64 0]),_,Ghost.refl _ _,?_,GhostV.refl _ _ _,rfl⟩
      rotate_left
      show resDV L _ [Go.ResultVar.tmp 8,Go.ResultVar.tmp 9] = _
      simp only [resDV,resL,resDV1,go_sem,jf,jh,ji,ja,jb,reduceIte,jc,jg,jd,je,reduceCtorEq]
      exact dn _ hO (by rw [hF,hrest]) _
    · rw [if_neg hnl] at hrest
      have d3:((out.length:Int) == n) = false:=by simpa using hnl
      by_cases hkey:p1 < key
      · rw [if_pos hkey] at hrest
        have d4:decide (p1 < key) = true:=decide_eq_true hkey
        repeat (first|((first|refine sA hL hn rfl ?_|refine sB hL hn rfl ?_);simp only [go_sem,jf,jh,ji,ja,jb,reduceIte,jc,jg,jd,je,reduceCtorEq,e1,hIXl,e2,e3,e4,Int.toNat_natCast,gT,sT,d3,d4,w2])|((first|refine sC ?_|refine sH ?_|refine sI ?_|refine sJ ?_);try simp only [jk,jl,jm,jn,if_true,if_false,jb])|refine sD ?_|refine sE ?_|refine sF rfl ?_|refine sG rfl ?_)
        exact Lp.nextg (k+1,out,T ++ [Ob.arr 27 2 [.agg [.int .u64 p1,.int .u64 p2]]]) ⟨by show k+1≤_; omega,by show out.length≤k+1; omega,hrest⟩ (by show N - (k+1) < _; omega) (.of (by simp [hO]) (by simp [agree,lk]))
      · rw [if_neg hkey] at hrest
        have d4:decide (p1 < key) = false:=decide_eq_false hkey
        repeat (first|((first|refine sA hL hn rfl ?_|refine sB hL hn rfl ?_);simp only [go_sem,jf,jh,ji,ja,jb,reduceIte,jc,jg,jd,je,reduceCtorEq,e1,hIXl,e2,e3,e4,Int.toNat_natCast,gT,sT,d3,d4,w2,appDV,hOl,hcap,gT2,gT3])|((first|refine sC ?_|refine sH ?_|refine sI ?_|refine sJ ?_);try simp only [jk,jl,jm,jn,if_true,if_false,jb])|refine sD ?_|refine sE ?_|refine sF rfl ?_|refine sG rfl ?_)
        exact Lp.nextg (k+1,out ++ [(p1,p2)],T ++ [Ob.arr 27 2 [.agg [.int .u64 p1,.int .u64 p2]],Ob.arr 27 2 [.agg [.int .u64 p1,.int .u64 p2]]]) ⟨by show k+1≤_; omega,by show (out ++ [(p1,p2)]).length≤k+1; simp; omega,hrest⟩ (by show N - (k+1) < _; omega) (.of (by simp [hO,eT]) (by simp [agree,lk]))
  · have e1:decide ((k:Int) < (N:Int)) = false:=decide_eq_false (by omega)
    rw [List.drop_of_length_le (by omega)] at hrest
    simp only [rngGo] at hrest
    obtain ⟨O,hO⟩:∃ O,O = out.map eT:=⟨_,rfl⟩
    rw [← hO]
    repeat (first|((first|refine sA hL hn rfl ?_|refine sB hL hn rfl ?_);simp only [go_sem,jf,jh,ji,ja,jb,reduceIte,jc,jg,jd,je,reduceCtorEq,e1])|((first|refine sC ?_|refine sH ?_|refine sI ?_|refine sJ ?_);try simp only [jk,jl,jm,jn,if_true,if_false,jb])|refine sD ?_|refine sE ?_|refine sF rfl ?_|refine sG rfl ?_)
    refine ⟨_,_,?_,_,(.tup [.sl (σ.length+7) out.length 0 out.length,.int .i64 0]),_,Ghost.refl _ _,?_,GhostV.refl _ _ _,rfl⟩
    rotate_left
    show resDV L _ [Go.ResultVar.tmp 8,Go.ResultVar.tmp 9] = _
    simp only [resDV,resL,resDV1,go_sem,jf,jh,ji,ja,jb,reduceIte,jc,jg,jd,je,reduceCtorEq]
    exact dn _ hO (by rw [hF,hrest]) _
end Go.VL
end
section
set_option maxRecDepth 10000
set_option maxHeartbeats 2000000
namespace Go.VL
open Go Go.Proofs
open Nat renaming reduceAdd → ja, reduceEqDiff → jb, reduceSub → jc, reduceMul → jd, reduceLeDiff → je, reduceBEq → jf, reduceLT → jg
open Int renaming reduceLT → jh, reduceLE → ji
open Go.VL renaming thenK → jk, blockK → jl, loopK → jm, loopG → jn
def metTo (met:List Int) (k:Nat):List Int:=((List.range k).filter fun (i:Nat)=>decide (((i+1:Nat):Int) ∈ met)).map fun (i:Nat)=>((i+1:Nat):Int)
def reachF (ps:List Pg) (root:Int):List Int × Int :=
  if (treeF ps root).2 ≠ 0 then ([],(treeF ps root).2) else (metTo (treeF ps root).1.met ps.length,0)
theorem metTo_succ (met:List Int) (k:Nat):metTo met (k+1) = if ((k+1:Nat):Int) ∈ met then metTo met k ++ [((k+1:Nat):Int)] else metTo met k:=by
  unfold metTo
  rw [List.range_succ,List.filter_append,List.map_append]
  by_cases h:((k+1:Nat):Int) ∈ met
  · rw [if_pos h]; simp only [List.filter_cons,List.filter_nil,h,decide_true,if_true,List.map_cons,List.map_nil]
  · rw [if_neg h]; simp only [List.filter_cons,List.filter_nil,h,decide_false,Bool.false_eq_true,if_false,List.map_nil,List.append_nil]
theorem metTo_len (met:List Int) (k:Nat):(metTo met k).length≤k:=by
  unfold metTo
  rw [List.length_map]
  exact Nat.le_trans (List.length_filter_le _ _) (by simp)
theorem treeF_small {ps:List Pg} {root:Int} (h:(treeF ps root).2 = 0):ps.length≤2048:=by
  unfold treeF at h
  split at h
  · cases h
  · omega
theorem reach_ok (c:Nat) (ps:List Pg) (root:Int) (σ:List Ob):Ok Try.prog 14 [.agg [pgsD c ps],.int .i64 root] σ (.ret (.tup [.vec 0 1 ((reachF ps root).1.map eI),.int .i64 (reachF ps root).2])) σ:=by
  have h0:=readOk_ok c ps root
  have h1:=readErr_ok c ps root
  obtain ⟨R,hR⟩:∃ R:Out→List Ob→Prop,R = fun o O=>o = .ret (.tup [.vec 0 1 ((reachF ps root).1.map eI),.int .i64 (reachF ps root).2])∧O = σ:=⟨_,rfl⟩
  have fin:∀ (d:DV) (l:List Int) (e:Int) (G:List Ob),reachF ps root = (l,e)→Gz (σ ++ G) 0 σ.length none d (.vec 0 1 (l.map eI))→Tid σ 0 R (.ret (.tup [d,.int .i64 e])) (σ ++ G):=by
    intro d l e G h hz
    refine Tid.none (.tup2 hz (.low ((low_int _ _).2 trivial))) ?_
    rw [hR]; exact ⟨by rw [h],rfl⟩
  refine OkE.ok (OkE.tidy (c:=0) (R:=R) ?_) (fun o O h=>by rw [hR] at h; exact h)
  have hsm:=fun h=>treeF_small (ps:=ps) (root:=root) h
  obtain ⟨w,hw⟩:∃ w,w = (treeF ps root).1:=⟨_,rfl⟩
  obtain ⟨e,he⟩:∃ e,e = (treeF ps root).2:=⟨_,rfl⟩
  have hF:reachF ps root = if e ≠ 0 then ([],e) else (metTo w.met ps.length,0):=by
    unfold reachF; rw [← he,← hw]
  rw [← he,← hw] at h0
  rw [← he] at h1 hsm
  simp only [readObs,wW,wI,wM,pgsD] at h0 h1 ⊢
  obtain ⟨ml,hml⟩:∃ ml,ml = w.met.length:=⟨_,rfl⟩
  obtain ⟨D,hD⟩:∃ D,D = metD w.met:=⟨_,rfl⟩
  have hfd:=fun k=>findD_met k w.met 0
  obtain ⟨X,hX⟩:∃ X,X = ps.map ePg:=⟨_,rfl⟩
  have hXl:X.length = ps.length:=by rw [hX,List.length_map]
  obtain ⟨II,hII⟩:∃ II,II = Ob.arr 27 2 (w.items.map eT):=⟨_,rfl⟩
  obtain ⟨N,hN⟩:∃ N,N = w.items.length:=⟨_,rfl⟩
  simp only [← hml,← hD,← hX,← hII,← hN] at h0 h1 hfd ⊢
  refine OkE.of_body layOk Try.func14 rfl (by decide) (by simp [Try.ntmps14]) fun C hP hn hσ hfix hdd=>?_
  rw [show Try.f14.ntmps = 39 from rfl] at hn
  have hL:LayOk C.P L:=hP ▸ layOk
  have hm:C.P.follows .mixedOrders = true:=hP ▸ mixed
  by_cases hne:e ≠ 0
  · rw [if_pos hne] at hF
    have d1:(e != 0) = true:=by simpa using hne
    repeat (first|((first|refine sA hL hn rfl ?_|refine sB hL hn rfl ?_);simp only [go_sem,jf,jh,ji,ja,jb,reduceIte,jc,jg,jd,je,reduceCtorEq])|((first|refine sC ?_|refine sH ?_|refine sI ?_|refine sJ ?_);try simp only [jk,jl,jm,jn,if_true,if_false,jb])|refine sD ?_|refine sE ?_|refine sF rfl ?_|refine sG rfl ?_)
    refine sK hP hL hn rfl rfl (h1 hne _) rfl rfl rfl rfl ?_; simp (maxSteps:=2000000) only [go_sem,jf,jh,ji,ja,jb,reduceIte,jc,jg,jd,je,reduceCtorEq]
    repeat (first|((first|refine sA hL hn rfl ?_|refine sB hL hn rfl ?_);simp only [go_sem,jf,jh,ji,ja,jb,reduceIte,jc,jg,jd,je,reduceCtorEq,d1])|((first|refine sC ?_|refine sH ?_|refine sI ?_|refine sJ ?_);try simp only [jk,jl,jm,jn,if_true,if_false,jb])|refine sD ?_|refine sE ?_|refine sF rfl ?_|refine sG rfl ?_)
    refine ⟨_,_,?_,_,(.tup [.nils,.int .i64 e]),_,Ghost.refl _ _,?_,GhostV.refl _ _ _,rfl⟩
    rotate_left
    show resDV L _ [Go.ResultVar.tmp 4,Go.ResultVar.tmp 5] = _
    simp only [resDV,resL,resDV1,go_sem,jf,jh,ji,ja,jb,reduceIte,jc,jg,jd,je,reduceCtorEq]
    exact fin _ [] e _ hF .nil
  rw [if_neg hne] at hF
  have he0:e = 0:=by omega
  have hps:=hsm he0
  have d1:((0:Int) != 0) = false:=rfl
  repeat (first|((first|refine sA hL hn rfl ?_|refine sB hL hn rfl ?_);simp only [go_sem,jf,jh,ji,ja,jb,reduceIte,jc,jg,jd,je,reduceCtorEq])|((first|refine sC ?_|refine sH ?_|refine sI ?_|refine sJ ?_);try simp only [jk,jl,jm,jn,if_true,if_false,jb])|refine sD ?_|refine sE ?_|refine sF rfl ?_|refine sG rfl ?_)
  refine sK hP hL hn rfl rfl (h0 he0 _) rfl rfl rfl rfl ?_; simp (maxSteps:=2000000) only [go_sem,jf,jh,ji,ja,jb,reduceIte,jc,jg,jd,je,reduceCtorEq]
  repeat (first|((first|refine sA hL hn rfl ?_|refine sB hL hn rfl ?_);simp only [go_sem,jf,jh,ji,ja,jb,reduceIte,jc,jg,jd,je,reduceCtorEq,d1,hXl])|((first|refine sC ?_|refine sH ?_|refine sI ?_|refine sJ ?_);try simp only [jk,jl,jm,jn,if_true,if_false,jb])|refine sD ?_|refine sE ?_|refine sF rfl ?_|refine sG rfl ?_)
  refine SW.ghost (Ghost.newNil 8 3 1 rfl) ?_
  simp only [up,jb,reduceIte,List.length_nil]
  obtain ⟨M,hM⟩:∃ M,M = w.met:=⟨_,rfl⟩
  simp only [← hM] at hfd hF
  refine SW.lpg (fun x:Nat × List Ob=>⟨[(2,.ptr σ.length 1 0 0),(6,.ptr (σ.length+5) 1 0 0),(8,.sl (σ.length+7) (metTo M x.1).length 0 (metTo M x.1).length),(20,.vec c 1 X),(21,.int .i64 ps.length),(22,.int .i64 x.1)],σ ++ (Ob.arr 29 1 [.agg [.vec c 1 X]] :: .arr 29 1 [.agg [.vec c 1 X]] :: .arr 68 1 [.ptr (σ.length+5) 1 0 0] :: .arr 31 1 [.int .i64 0] :: .oth (.map (List.range ml) ml) D :: .arr 74 4 [.agg [.vec c 1 X,.mp (σ.length+4),.sl (σ.length+6) N 0 N,.int .i64 w.leaf]] :: II :: .arr 3 1 ((metTo M x.1).map eI) :: x.2)⟩) (fun x=>ps.length - x.1) (fun x=>x.1≤ps.length) (0,[]) (by simp) (.of (by simp [metTo]) (by simp [agree,lk,metTo])) ?_
  rintro ⟨k,T⟩ hk
  simp only at hk
  have hml2:=metTo_len M k
  by_cases hlt:k < ps.length
  · have e1:decide ((k:Int) < (ps.length:Int)) = true:=decide_eq_true (by omega)
    have w2:IntKind.i64.wrap ((k:Int)+1) = ((k+1:Nat):Int):=wi (by omega) (by omega)
    have hsucc:=metTo_succ M k
    have hfk:=hfd ((k+1:Nat):Int)
    have hko:keyOk L 3 (.int .i64 ((k+1:Nat):Int)) = true:=rfl
    obtain ⟨o,ho⟩:∃ o,o = metTo M k:=⟨_,rfl⟩
    obtain ⟨o',ho'⟩:∃ o',o' = metTo M (k+1):=⟨_,rfl⟩
    rw [← ho,← ho'] at hsucc
    rw [← ho] at hml2 ⊢
    obtain ⟨O,hO⟩:∃ O,O = o.map eI:=⟨_,rfl⟩
    have hOl:O.length = o.length:=by rw [hO,List.length_map]
    have hcap:((o.length+1) * 8≤140737488355328) = True:=eq_true (by omega)
    rw [← hO]
    by_cases hin:((k+1:Nat):Int) ∈ M
    · rw [if_pos hin] at hsucc hfk
      repeat (first|((first|refine sA hL hn rfl ?_|refine sB hL hn rfl ?_);simp only [go_sem,jf,jh,ji,ja,jb,reduceIte,jc,jg,jd,je,reduceCtorEq,e1,w2,hko,hfk,L72,appDV,hOl,hcap])|((first|refine sC ?_|refine sH ?_|refine sI ?_|refine sJ ?_);try simp only [jk,jl,jm,jn,if_true,if_false,jb])|refine sD ?_|refine sE ?_|refine sF rfl ?_|refine sG rfl ?_)
      exact Lp.nextg (k+1,T ++ [.arr 3 1 [.int .i64 ((k+1:Nat):Int)]]) (by show k+1≤_; omega) (by show ps.length - (k+1) < _; omega) (.of (by simp only; rw [← ho',hsucc]; simp [hO,eI]) (by simp only [← ho',hsucc]; simp [agree,lk]))
    · rw [if_neg hin] at hsucc hfk
      repeat (first|((first|refine sA hL hn rfl ?_|refine sB hL hn rfl ?_);simp only [go_sem,jf,jh,ji,ja,jb,reduceIte,jc,jg,jd,je,reduceCtorEq,e1,w2,hko,hfk,L72])|((first|refine sC ?_|refine sH ?_|refine sI ?_|refine sJ ?_);try simp only [jk,jl,jm,jn,if_true,if_false,jb])|refine sD ?_|refine sE ?_|refine sF rfl ?_|refine sG rfl ?_)
      exact Lp.nextg (k+1,T) (by show k+1≤_; omega) (by show ps.length - (k+1) < _; omega) (.of (by simp only; rw [← ho',hsucc,← hO]) (by simp only [← ho',hsucc]; simp [agree,lk]))
  · have e1:decide ((k:Int) < (ps.length:Int)) = false:=decide_eq_false (by omega)
    obtain rfl:k = ps.length:=by omega
    repeat (first|((first|refine sA hL hn rfl ?_|refine sB hL hn rfl ?_);simp only [go_sem,jf,jh,ji,ja,jb,reduceIte,jc,jg,jd,je,reduceCtorEq,e1])|((first|refine sC ?_|refine sH ?_|refine sI ?_|refine sJ ?_);try simp only [jk,jl,jm,jn,if_true,if_false,jb])|refine sD ?_|refine sE ?_|refine sF rfl ?_|refine sG rfl ?_)
    refine ⟨_,_,?_,_,(.tup [.sl (σ.length+7) (metTo M ps.length).length 0 (metTo M ps.length).length,.int .i64 0]),_,Ghost.refl _ _,?_,GhostV.refl _ _ _,rfl⟩
    rotate_left
    show resDV L _ [Go.ResultVar.tmp 4,Go.ResultVar.tmp 5] = _
    simp only [resDV,resL,resDV1,go_sem,jf,jh,ji,ja,jb,reduceIte,jc,jg,jd,je,reduceCtorEq]
    refine fin _ (metTo M ps.length) 0 _ hF ?_
    have:=Gz.row (O:=σ ++ (Ob.arr 29 1 [.agg [.vec c 1 X]] :: .arr 29 1 [.agg [.vec c 1 X]] :: .arr 68 1 [.ptr (σ.length+5) 1 0 0] :: .arr 31 1 [.int .i64 0] :: .oth (.map (List.range ml) ml) D :: .arr 74 4 [.agg [.vec c 1 X,.mp (σ.length+4),.sl (σ.length+6) N 0 N,.int .i64 w.leaf]] :: II :: .arr 3 1 ((metTo M ps.length).map eI) :: T)) (c:=0) (n:=σ.length) (J:=none) (id:=σ.length+7) (t:=3) (k:=1) (xs:=(metTo M ps.length).map eI) (by omega) (by simp) (by rw [own_get]; rfl) (fun x hx=>by obtain ⟨y,_,rfl⟩:=List.mem_map.1 hx; exact low_eI _ y)
    rw [List.length_map] at this
    exact this
end Go.VL
end
section
set_option maxRecDepth 10000
set_option maxHeartbeats 2000000
namespace Go.VL
open Go Go.Proofs
open Nat renaming reduceAdd → ja, reduceEqDiff → jb, reduceSub → jc, reduceMul → jd, reduceLeDiff → je, reduceBEq → jf, reduceLT → jg
open Int renaming reduceLT → jh, reduceLE → ji
open Go.VL renaming thenK → jk, blockK → jl, loopK → jm, loopG → jn
theorem leNat_drop (xs:List UInt8) (i:Nat) (h:i < xs.length):leNat (xs.drop i) = (xs[i]'h).toNat+256 * leNat (xs.drop (i+1)):=by
  rw [List.drop_eq_getElem_cons h]; rfl
theorem refGet_ok (c:Nat) (bs:List UInt8) (A S:Nat) (h:1≤S∧S≤8∧A+S≤bs.length∧bs.length≤1048576) (σ:List Ob) :
    Ok Try.prog 85 [.vec c 1 (bs.map eB),.int .i64 A,.int .i64 S] σ (.ret (.tup [.int .u64 (numF bs A S),.int .i64 0])) σ:=by
  have hnum:numF bs A S = (leNat ((bs.drop A).take S):Int):=by
    unfold numF getRes
    rw [if_neg (by omega),if_neg (by omega),if_neg (by omega),Int.toNat_natCast,Int.toNat_natCast]
  rw [hnum]
  obtain ⟨xs,hxs⟩:∃ xs,xs = (bs.drop A).take S:=⟨_,rfl⟩
  have hxl:xs.length = S:=by rw [hxs]; simp; omega
  have hx:∀ (k:Nat) (hk:k < S),bs[A+k]? = some (xs[k]'(by omega)):=by
    intro k hk
    have:xs[k]? = bs[A+k]?:=by rw [hxs,List.getElem?_take_of_lt hk,List.getElem?_drop]
    rw [← this,List.getElem?_eq_getElem]
  rw [← hxs]
  obtain ⟨X,hX⟩:∃ X,X = bs.map eB:=⟨_,rfl⟩
  have hXl:X.length = bs.length:=by rw [hX,List.length_map]
  rw [← hX]
  have d1:decide ((S:Int) < 1) = false:=decide_eq_false (by omega)
  have d2:decide ((S:Int) > 8) = false:=decide_eq_false (by omega)
  have d3:decide ((A:Int) < 0) = false:=decide_eq_false (by omega)
  have d4:decide ((A:Int) > (bs.length:Int)) = false:=decide_eq_false (by omega)
  have w1:IntKind.i64.wrap ((bs.length:Int) - (A:Int)) = ((bs.length - A:Nat):Int):=wi (by omega) (by omega)
  have d5:decide (((bs.length - A:Nat):Int) < (S:Int)) = false:=decide_eq_false (by omega)
  have w2:IntKind.i64.wrap ((S:Int) - 1) = (S:Int) - 1:=wi (by omega) rfl
  refine Ok.of_body layOk Try.func85 rfl (by decide) (by simp [Try.ntmps85]) fun C hP hn hσ hfix hdd=>?_
  rw [show Try.f85.ntmps = 50 from rfl] at hn
  have hL:LayOk C.P L:=hP ▸ layOk
  have hm:C.P.follows .mixedOrders = true:=hP ▸ mixed
  repeat (first|((first|refine sA hL hn rfl ?_|refine sB hL hn rfl ?_);simp only [go_sem,jf,jh,ji,ja,jb,reduceIte,jc,jg,jd,je,reduceCtorEq,d1,d2,d3,hXl,d4,w1,d5,w2])|((first|refine sC ?_|refine sH ?_|refine sI ?_|refine sJ ?_);try simp only [jk,jl,jm,jn,if_true,if_false,jb])|refine sD ?_|refine sE ?_|refine sF rfl ?_|refine sG rfl ?_)
  refine SW.lpg (fun k:Nat=>⟨[(0,.vec c 1 X),(1,.int .i64 A),(8,.int .u64 (leNat (xs.drop (S - k)))),(9,.int .i64 ((S:Int) - 1 - k))],σ⟩) (fun k=>S - k) (fun k=>k≤S) 0 (by omega) (.of rfl (by simp [agree,lk,List.drop_of_length_le (show xs.length≤S by omega),leNat])) ?_
  intro k hk
  by_cases hlt:k < S
  · have e1:decide ((S:Int) - 1 - k ≥ 0) = true:=decide_eq_true (by omega)
    obtain ⟨q,hq⟩:∃ q,q = S - 1 - k:=⟨_,rfl⟩
    have hqe:(S:Int) - 1 - k = (q:Int):=by omega
    have hqs:q < xs.length:=by omega
    have hd:=leNat_drop xs q hqs
    rw [show q+1 = S - k by omega] at hd
    have hxq:=hx q (by omega)
    obtain ⟨v,hv⟩:∃ v,v = leNat (xs.drop (S - k)):=⟨_,rfl⟩
    obtain ⟨b,hb⟩:∃ b,b = (xs[q]'hqs):=⟨_,rfl⟩
    rw [← hb] at hd hxq
    rw [← hv] at hd ⊢
    have e3:X[A+q]?.getD .undef = .int .u8 (b.toNat:Int):=by rw [hX,List.getElem?_map,hxq]; rfl
    have hvb:v < 256 ^ 7:=by
      have:=leNat_lt (xs.drop (S - k))
      rw [← hv,List.length_drop,hxl] at this
      exact Nat.lt_of_lt_of_le this (Nat.pow_le_pow_right (by omega) (by omega))
    have hbb:=b.toNat_lt
    have h7:256 ^ 7 = 72057594037927936:=by decide
    have w3:IntKind.u64.wrap (256 * (v:Int)) = ((256 * v:Nat):Int):=wu (by omega) (by omega)
    have w4:IntKind.i64.wrap ((A:Int)+(q:Int)) = ((A+q:Nat):Int):=wi (by omega) (by omega)
    have w5:IntKind.u64.wrap (b.toNat:Int) = (b.toNat:Int):=wu (by omega) rfl
    have w6:IntKind.u64.wrap (((256 * v:Nat):Int)+(b.toNat:Int)) = ((leNat (xs.drop q):Nat):Int):=wu (by omega) (by omega)
    have w7:IntKind.i64.wrap ((q:Int) - 1) = (S:Int) - 1 - (k+1:Nat):=wi (by omega) (by omega)
    have e2:(0≤((A+q:Nat):Int)∧((A+q:Nat):Int) < (bs.length:Int)):=by omega
    rw [hqe] at e1 ⊢
    obtain ⟨AQ,hAQ⟩:∃ AQ,AQ = A+q:=⟨_,rfl⟩
    obtain ⟨V2,hV2⟩:∃ V2,V2 = 256 * v:=⟨_,rfl⟩
    rw [← hAQ] at w4 e2 e3
    rw [← hV2] at w3 w6
    repeat (first|((first|refine sA hL hn rfl ?_|refine sB hL hn rfl ?_);simp only [go_sem,jf,jh,ji,ja,jb,reduceIte,jc,jg,jd,je,reduceCtorEq,e1,w3,w4,hXl,e2,e3,convDV,w5,w6,w7])|((first|refine sC ?_|refine sH ?_|refine sI ?_|refine sJ ?_);try simp only [jk,jl,jm,jn,if_true,if_false,jb])|refine sD ?_|refine sE ?_|refine sF rfl ?_|refine sG rfl ?_)
    refine Lp.nextg (k+1) (by omega) (by omega) (.of rfl ?_)
    rw [show S - (k+1) = q by omega]
    simp [agree,lk]
  · have e1:decide ((S:Int) - 1 - k ≥ 0) = false:=decide_eq_false (by omega)
    obtain rfl:k = S:=by omega
    rw [Nat.sub_self,List.drop_zero]
    repeat (first|((first|refine sA hL hn rfl ?_|refine sB hL hn rfl ?_);simp only [go_sem,jf,jh,ji,ja,jb,reduceIte,jc,jg,jd,je,reduceCtorEq,e1])|((first|refine sC ?_|refine sH ?_|refine sI ?_|refine sJ ?_);try simp only [jk,jl,jm,jn,if_true,if_false,jb])|refine sD ?_|refine sE ?_|refine sF rfl ?_|refine sG rfl ?_)
    exact ⟨_,_,_,Ghost.refl _ _,rfl,GhostV.refl _ _ _,rfl⟩
theorem pB_step (n:Nat) (i:Nat) (hi:i < 8):pB (n:Int) i = b8 (IntKind.u8.wrap ((n / 256 ^ i % 256:Nat):Int)):=by
  unfold pB
  have hm:min (8 * i) 64 = 8 * i:=by omega
  rw [hm,Int.fdiv_eq_ediv_of_nonneg _ (by exact_mod_cast Nat.zero_le _)]
  have e:((n:Int) / (2:Int) ^ (8 * i)) = ((n / 256 ^ i:Nat):Int):=by
    rw [show (2:Int) ^ (8 * i) = ((256 ^ i:Nat):Int) by rw [show (256:Nat) = 2 ^ 8 from rfl,← Nat.pow_mul]; simp]
    rfl
  rw [e]
  congr 1
  have h1:=IntKind.wrap_u8 ((n / 256 ^ i:Nat):Int)
  have h2:=IntKind.wrap_u8 ((n / 256 ^ i % 256:Nat):Int)
  rw [h1,h2]
  omega
theorem putRes_nat (n S:Nat) (hS:1≤S∧S≤8) (hn:n < 2 ^ 64):putRes n S = if n / 256 ^ S > 0 then ([],4) else (putB n S,0):=by
  have e8:(8 * (S:Int)).toNat = 8 * S:=by omega
  have hm:min (8 * S) 64 = 8 * S:=by omega
  have e:(n:Int).fdiv (2 ^ (8 * S)) = ((n / 256 ^ S:Nat):Int):=by
    rw [Int.fdiv_eq_ediv_of_nonneg _ (by exact_mod_cast Nat.zero_le _),show (2:Int) ^ (8 * S) = ((256 ^ S:Nat):Int) by rw [show (256:Nat) = 2 ^ 8 from rfl,← Nat.pow_mul]; simp]
    rfl
  unfold putRes
  rw [if_neg (by omega),e8,hm,e,Int.toNat_natCast]
  have h8:S = 8→n / 256 ^ S = 0:=fun h=>by rw [h]; exact Nat.div_eq_of_lt (by rw [show (256:Nat) ^ 8 = 2 ^ 64 by decide]; exact hn)
  generalize n / 256 ^ S = q at h8 ⊢
  by_cases h:q > 0
  · have hS8:S < 8:=by
      apply Classical.byContradiction
      intro h9
      have:=h8 (by omega)
      omega
    rw [if_pos h,if_pos ⟨by omega,by omega⟩]
  · rw [if_neg h,if_neg]
    rintro ⟨_,h2⟩
    apply h2
    omega
theorem refPut_ok (n S:Nat) (hS:1≤S∧S≤8) (hn:n < 2 ^ 64) (σ:List Ob) :
    Ok Try.prog 87 [.int .u64 n,.int .i64 S] σ (.ret (.tup [.vec 0 1 ((putRes n S).1.map eB),.int .i64 (putRes n S).2])) σ:=by
  have hp:=putRes_nat n S hS hn
  obtain ⟨R,hR⟩:∃ R,R = putRes n S:=⟨_,rfl⟩
  rw [← hR] at hp ⊢
  have hn64:n < 18446744073709551616:=hn
  refine (OkE.thaw (c:=0) (R:=fun D=>D = .tup [.vec 0 1 (R.1.map eB),.int .i64 R.2]) ?_ (by simp [lk,low_int,low_bool,low_str,low_nils,low_nilp,low_nilf,low_nili,low_undef,low_skip,low_vec,low_agg,low_tup,low_fn,low_vptr,low_iface,low_ptr,low_sl,low_mp,low_it,low_yld,low_emp,lowEnv,lowObs,lowOb,tmpObs,isArr]) σ).ok fun o σ' ⟨e,D',e1,e2⟩=>by subst e2; exact ⟨e1,e⟩
  have d1:decide ((S:Int) < 1) = false:=decide_eq_false (by omega)
  have d2:decide ((S:Int) > 8) = false:=decide_eq_false (by omega)
  refine OkE.of_body layOk Try.func87 rfl (by decide) (by simp [Try.ntmps87]) fun C hP hn hσ hfix hdd=>?_
  rw [show Try.f87.ntmps = 30 from rfl] at hn
  have hL:LayOk C.P L:=hP ▸ layOk
  have hm:C.P.follows .mixedOrders = true:=hP ▸ mixed
  repeat (first|((first|refine sA hL hn rfl ?_|refine sB hL hn rfl ?_);simp only [go_sem,jf,jh,ji,ja,jb,reduceIte,jc,jg,jd,je,reduceCtorEq,d1,d2])|((first|refine sC ?_|refine sH ?_|refine sI ?_|refine sJ ?_);try simp only [jk,jl,jm,jn,if_true,if_false,jb])|refine sD ?_|refine sE ?_|refine sF rfl ?_|refine sG rfl ?_)
  refine SW.ghost (Ghost.newNil 6 5 1 rfl) ?_
  simp only [up,jb,reduceIte,List.length_nil,List.nil_append]
  refine SW.lpg (fun x:Nat × List Ob=>⟨[(0,.int .u64 ((n / 256 ^ x.1:Nat):Int)),(1,.int .i64 S),(6,.sl 0 x.1 0 x.1),(7,.int .i64 x.1)],Ob.arr 5 1 ((putB n x.1).map eB) :: x.2⟩) (fun x=>S - x.1) (fun x=>x.1≤S) (0,[]) (by simp) (.of rfl (by simp [agree,lk])) ?_
  rintro ⟨k,T⟩ hk
  simp only at hk
  by_cases hlt:k < S
  · have e1:decide ((k:Int) < (S:Int)) = true:=decide_eq_true (by omega)
    have w2:IntKind.i64.wrap ((k:Int)+1) = ((k+1:Nat):Int):=wi (by omega) (by omega)
    have hps:=pB_step n k (by omega)
    have hdiv:n / 256 ^ k / 256 = n / 256 ^ (k+1):=by rw [Nat.div_div_eq_div_mul,Nat.pow_succ]
    have hle:n / 256 ^ k≤n:=Nat.div_le_self _ _
    obtain ⟨m,hm'⟩:∃ m,m = n / 256 ^ k:=⟨_,rfl⟩
    obtain ⟨m',hm''⟩:∃ m',m' = n / 256 ^ (k+1):=⟨_,rfl⟩
    rw [← hm'] at hps hdiv hle
    rw [← hm''] at hdiv
    simp only
    rw [← hm']
    have r1:(m:Int).tmod 256 = ((m % 256:Nat):Int):=rfl
    have r2:(m:Int).tdiv 256 = (m':Int):=by rw [← hdiv]; rfl
    have r3:IntKind.u64.wrap (m':Int) = (m':Int):=wu (by omega) rfl
    have r4:IntKind.u64.wrap ((m % 256:Nat):Int) = ((m % 256:Nat):Int):=wu (by omega) rfl
    obtain ⟨O,hO⟩:∃ O,O = (putB n k).map eB:=⟨_,rfl⟩
    have hOl:O.length = k:=by rw [hO,List.length_map,putB_length]
    have hOs:O ++ [.int .u8 (IntKind.u8.wrap ((m % 256:Nat):Int))] = (putB n (k+1)).map eB:=by
      rw [hO,← eB_b8,← hps]; simp [putB,List.range_succ]
    have hcap:(k+1≤140737488355328) = True:=eq_true (by omega)
    rw [← hO]
    obtain ⟨mr,hmr⟩:∃ mr,mr = m % 256:=⟨_,rfl⟩
    rw [← hmr] at r1 r4 hOs
    have z1:((256:Int) = 0) = False:=by decide
    repeat (first|((first|refine sA hL hn rfl ?_|refine sB hL hn rfl ?_);simp only [go_sem,jf,jh,ji,ja,jb,reduceIte,jc,jg,jd,je,reduceCtorEq,e1,r1,r2,r3,r4,convDV,appDV,hOl,hcap,w2,z1])|((first|refine sC ?_|refine sH ?_|refine sI ?_|refine sJ ?_);try simp only [jk,jl,jm,jn,if_true,if_false,jb])|refine sD ?_|refine sE ?_|refine sF rfl ?_|refine sG rfl ?_)
    exact Lp.nextg (k+1,T ++ [.arr 5 1 [.int .u8 (IntKind.u8.wrap (mr:Int))]]) (by show k+1≤_; omega) (by show S - (k+1) < _; omega) (.of (by simp [← hOs]) (by simp [agree,lk,← hm'']))
  · have e1:decide ((k:Int) < (S:Int)) = false:=decide_eq_false (by omega)
    obtain rfl:k = S:=by omega
    obtain ⟨q,hq⟩:∃ q,q = n / 256 ^ k:=⟨_,rfl⟩
    simp only
    rw [← hq] at hp ⊢
    by_cases hq0:q > 0
    · rw [if_pos hq0] at hp
      have d3:decide ((q:Int) > 0) = true:=decide_eq_true (by omega)
      repeat (first|((first|refine sA hL hn rfl ?_|refine sB hL hn rfl ?_);simp only [go_sem,jf,jh,ji,ja,jb,reduceIte,jc,jg,jd,je,reduceCtorEq,e1,d3])|((first|refine sC ?_|refine sH ?_|refine sI ?_|refine sJ ?_);try simp only [jk,jl,jm,jn,if_true,if_false,jb])|refine sD ?_|refine sE ?_|refine sF rfl ?_|refine sG rfl ?_)
      refine ⟨_,_,⟨_,_,rfl,.two (.nil (k:=1)) .int,?_⟩,_,_,_,Ghost.refl _ _,rfl,GhostV.refl _ _ _,rfl⟩
      rw [hp]; rfl
    · rw [if_neg hq0] at hp
      have d3:decide ((q:Int) > 0) = false:=decide_eq_false (by omega)
      repeat (first|((first|refine sA hL hn rfl ?_|refine sB hL hn rfl ?_);simp only [go_sem,jf,jh,ji,ja,jb,reduceIte,jc,jg,jd,je,reduceCtorEq,e1,d3])|((first|refine sC ?_|refine sH ?_|refine sI ?_|refine sJ ?_);try simp only [jk,jl,jm,jn,if_true,if_false,jb])|refine sD ?_|refine sE ?_|refine sF rfl ?_|refine sG rfl ?_)
      refine ⟨_,_,⟨_,_,rfl,.two (a':=.vec 0 1 ((putB n k).map eB)) ?_ .int,?_⟩,_,_,_,Ghost.refl _ _,rfl,GhostV.refl _ _ _,rfl⟩
      · have:=Fz.list (O:=Ob.arr 5 1 ((putB n k).map eB) :: T) (c:=0) (id:=0) (t:=5) (k:=1) (l:=putB n k) eB (low_eB 0) rfl
        rw [putB_length] at this
        exact this
      · rw [hp]
theorem copied_ok (c:Nat) (bs:List UInt8) (hl:bs.length≤134217728) (σ:List Ob):Ok Try.prog 84 [.vec c 1 (bs.map eB)] σ (.ret (.vec 0 1 (bs.map eB))) σ:=by
  by_cases h0:bs.length = 0
  · obtain rfl:=List.eq_nil_of_length_eq_zero h0
    refine Ok.thaw (c:=0) (d:=.sl 0 0 0 0) (O:=[.arr 5 1 []]) ?_ (Fz.list (l:=[]) eB (low_eB 0) rfl) (by simp [lk,low_int,low_bool,low_str,low_nils,low_nilp,low_nilf,low_nili,low_undef,low_skip,low_vec,low_agg,low_tup,low_fn,low_vptr,low_iface,low_ptr,low_sl,low_mp,low_it,low_yld,low_emp,lowEnv,lowObs,lowOb,tmpObs,isArr]) σ
    refine Ok.of_body layOk Try.func84 rfl (by decide) (by simp [Try.ntmps84]) fun C hP hn hσ hfix hdd=>?_
    rw [show Try.f84.ntmps = 7 from rfl] at hn
    have hL:LayOk C.P L:=hP ▸ layOk
    have hm:C.P.follows .mixedOrders = true:=hP ▸ mixed
    repeat (first|((first|refine sA hL hn rfl ?_|refine sB hL hn rfl ?_);simp only [go_sem,jf,jh,ji,ja,jb,reduceIte,jc,jg,jd,je,reduceCtorEq,appDV])|((first|refine sC ?_|refine sH ?_|refine sI ?_|refine sJ ?_);try simp only [jk,jl,jm,jn,if_true,if_false,jb])|refine sD ?_|refine sE ?_|refine sF rfl ?_|refine sG rfl ?_)
    exact ⟨_,_,_,Ghost.refl _ _,rfl,GhostV.refl _ _ _,rfl⟩
  · have a1:=all_eB bs
    obtain ⟨X,hX⟩:∃ X,X = bs.map eB:=⟨_,rfl⟩
    have hXl:X.length = bs.length:=by rw [hX,List.length_map]
    have hlX:=low_bytes 0 c bs
    have hz:Fz [Ob.arr 5 1 X] 0 (.sl 0 bs.length 0 bs.length) (.vec 0 1 X):=by rw [hX]; exact Fz.list eB (low_eB 0) rfl
    simp only [DV.cells] at a1
    rw [← hX] at hlX a1 ⊢
    refine Ok.thaw (c:=0) ?_ hz (by simpa using hlX) σ
    have n0:(bs.length = 0) = False:=eq_false h0
    have hcap:(bs.length≤140737488355328) = True:=eq_true (by omega)
    refine Ok.of_body layOk Try.func84 rfl (by decide) (by simp [Try.ntmps84]) fun C hP hn hσ hfix hdd=>?_
    rw [show Try.f84.ntmps = 7 from rfl] at hn
    have hL:LayOk C.P L:=hP ▸ layOk
    have hm:C.P.follows .mixedOrders = true:=hP ▸ mixed
    repeat (first|((first|refine sA hL hn rfl ?_|refine sB hL hn rfl ?_);simp only [go_sem,jf,jh,ji,ja,jb,reduceIte,jc,jg,jd,je,reduceCtorEq,appDV,hXl,a1,n0,hcap])|((first|refine sC ?_|refine sH ?_|refine sI ?_|refine sJ ?_);try simp only [jk,jl,jm,jn,if_true,if_false,jb])|refine sD ?_|refine sE ?_|refine sF rfl ?_|refine sG rfl ?_)
    exact ⟨_,_,_,Ghost.refl _ _,rfl,GhostV.refl _ _ _,rfl⟩
end Go.VL
end
section
set_option maxRecDepth 10000
namespace Go.VL
open Go Go.Proofs
open Nat renaming reduceAdd → ja, reduceEqDiff → jb, reduceSub → jc, reduceMul → jd, reduceLeDiff → je, reduceBEq → jf, reduceLT → jg
open Int renaming reduceLT → jh, reduceLE → ji
open Go.VL renaming thenK → jk, blockK → jl, loopK → jm, loopG → jn
end Go.VL
end
section
set_option maxRecDepth 10000
namespace Go.VL
open Go Go.Proofs
open Nat renaming reduceAdd → ja, reduceEqDiff → jb, reduceSub → jc, reduceMul → jd, reduceLeDiff → je, reduceBEq → jf, reduceLT → jg
open Int renaming reduceLT → jh, reduceLE → ji
open Go.VL renaming thenK → jk, blockK → jl, loopK → jm, loopG → jn
def halfT:Nat:=12749536319551302420830055290731983042906869231766370170184255228463894984119587222357463453493748006886229547019502462691509165827871124329361635492757504
def stepN (c:Nat):Nat:=Nat.xor (Nat.shiftRight c 4) (Nat.land (Nat.shiftRight halfT (Nat.mul 32 (Nat.land c 15))) 4294967295)
def byteN (c x:Nat):Nat:=stepN (stepN (Nat.xor c x))
noncomputable def foldN (l:List Nat):Nat→Nat:=@List.rec Nat (fun _=>Nat→Nat) (fun c=>c) (fun x _ ih c=>ih (byteN c x)) l
noncomputable def sumN (l:List Nat):Nat:=Nat.xor 4294967295 (foldN l 4294967295)
theorem halfT_eq:∀ j:_root_.Fin 16,halfF j.val = ((Nat.land (Nat.shiftRight halfT (Nat.mul 32 j.val)) 4294967295:Nat):Int):=by
  have h:(List.range 16).all (fun j=>decide (halfF j = ((Nat.land (Nat.shiftRight halfT (Nat.mul 32 j)) 4294967295:Nat):Int))) = true:=by kernel_rfl
  intro j
  have:=List.all_eq_true.1 h j.val (List.mem_range.2 j.isLt)
  simpa using this
theorem u32_in (n:Nat) (h:n < 4294967296):IntKind.u32.wrap (n:Int) = (n:Int):=by
  rw [IntKind.wrap_u32]
  omega
theorem bits_xor (a b:Nat) (ha:a < 4294967296) (hb:b < 4294967296):bits .u32 .xor (a:Int) (b:Int) = ((Nat.xor a b:Nat):Int)∧Nat.xor a b < 4294967296:=by
  have h:a ^^^ b < 2 ^ 32:=Nat.xor_lt_two_pow ha hb
  refine ⟨?_,h⟩
  simp only [bits]
  have e:(BitVec.ofInt IntKind.u32.bits (a:Int) ^^^ BitVec.ofInt IntKind.u32.bits (b:Int)).toNat = a ^^^ b:=by
    simp only [BitVec.toNat_xor,BitVec.ofInt_natCast,BitVec.toNat_ofNat]
    rw [show IntKind.u32.bits = 32 from rfl,Nat.mod_eq_of_lt ha,Nat.mod_eq_of_lt hb]
  rw [e]
  exact u32_in _ h
theorem bits_and15 (a:Nat) (ha:a < 4294967296):bits .u32 .and (a:Int) 15 = ((Nat.land a 15:Nat):Int)∧Nat.land a 15 < 16:=by
  have h:a &&& 15 < 16:=Nat.lt_of_le_of_lt Nat.and_le_right (by decide)
  refine ⟨?_,h⟩
  simp only [bits]
  have e:(BitVec.ofInt IntKind.u32.bits (a:Int) &&& BitVec.ofInt IntKind.u32.bits (15:Int)).toNat = a &&& 15:=by
    rw [show (15:Int) = ((15:Nat):Int) from rfl]
    simp only [BitVec.toNat_and,BitVec.ofInt_natCast,BitVec.toNat_ofNat]
    rw [show IntKind.u32.bits = 32 from rfl,Nat.mod_eq_of_lt ha]
  rw [e]
  exact u32_in _ (by omega)
theorem halfStep_eq (c:Nat) (h:c < 4294967296):halfStep (c:Int) = ((stepN c:Nat):Int)∧stepN c < 4294967296:=by
  obtain ⟨a1,a2⟩:=bits_and15 c h
  have f1:((c:Int).fdiv (2 ^ min (4:Int).toNat IntKind.u32.bits)) = ((Nat.shiftRight c 4:Nat):Int):=by
    show (c:Int).fdiv 16 = ((c >>> 4:Nat):Int)
    rw [Nat.shiftRight_eq_div_pow,Int.fdiv_eq_ediv_of_nonneg _ (by decide)]
    omega
  have t1:(bits .u32 .and (c:Int) 15).toNat = Nat.land c 15:=by rw [a1]; rfl
  have t2:=halfT_eq ⟨Nat.land c 15,a2⟩
  have m1:Nat.land (Nat.shiftRight halfT (Nat.mul 32 (Nat.land c 15))) 4294967295 < 4294967296:=by
    have:Nat.land (Nat.shiftRight halfT (Nat.mul 32 (Nat.land c 15))) 4294967295≤4294967295:=Nat.and_le_right
    omega
  have s1:Nat.shiftRight c 4 < 4294967296:=by
    show c >>> 4 < _
    rw [Nat.shiftRight_eq_div_pow]
    omega
  obtain ⟨x1,x2⟩:=bits_xor _ _ s1 m1
  refine ⟨?_,x2⟩
  unfold halfStep
  rw [f1,t1,t2]
  exact x1
theorem moreStep_eq (c:Nat) (x:UInt8) (h:c < 4294967296):moreStep (c:Int) x = ((byteN c x.toNat:Nat):Int)∧byteN c x.toNat < 4294967296:=by
  have hx:=x.toNat_lt
  obtain ⟨x1,x2⟩:=bits_xor c x.toNat h (by omega)
  obtain ⟨y1,y2⟩:=halfStep_eq _ x2
  obtain ⟨z1,z2⟩:=halfStep_eq _ y2
  refine ⟨?_,z2⟩
  unfold moreStep
  rw [u32_in _ (by omega),x1,y1,z1]
  rfl
theorem foldN_eq:∀ (bs:List UInt8) (c:Nat),c < 4294967296→bs.foldl moreStep (c:Int) = ((foldN (bs.map UInt8.toNat) c:Nat):Int)∧foldN (bs.map UInt8.toNat) c < 4294967296
  | [],c,h=>⟨rfl,h⟩
  | x :: r,c,h=>by
    obtain ⟨h1,h2⟩:=moreStep_eq c x h
    rw [List.foldl_cons,h1]
    exact foldN_eq r _ h2
theorem sumN_eq (bs:List UInt8):sumF bs = ((sumN (bs.map UInt8.toNat):Nat):Int):=by
  unfold sumF moreF
  have m:IntKind.u32.max = ((4294967295:Nat):Int):=rfl
  have z:(0:Int) = ((0:Nat):Int):=rfl
  have b0:bits .u32 .xor ((4294967295:Nat):Int) ((0:Nat):Int) = ((4294967295:Nat):Int):=by
    rw [(bits_xor 4294967295 0 (by decide) (by decide)).1]
    rfl
  rw [m,z,b0]
  obtain ⟨h1,h2⟩:=foldN_eq bs 4294967295 (by decide)
  rw [h1,(bits_xor _ _ (by decide) h2).1]
  rfl
end Go.VL
end
section
set_option maxRecDepth 10000
set_option maxHeartbeats 2000000
namespace Go.VL
open Go Go.Proofs
open Nat renaming reduceAdd → ja, reduceEqDiff → jb, reduceSub → jc, reduceMul → jd, reduceLeDiff → je, reduceBEq → jf, reduceLT → jg
open Int renaming reduceLT → jh, reduceLE → ji
open Go.VL renaming thenK → jk, blockK → jl, loopK → jm, loopG → jn
def bitN (c:Nat):Nat:=if c % 2 = 1 then (c / 2) ^^^ 2197175160 else c / 2
theorem xor_mod2 (a b:Nat):(2 * a ^^^ b) % 2 = b % 2:=by
  have:=Nat.xor_mod_two_pow (a:=2 * a) (b:=b) (n:=1)
  rw [show (2:Nat) ^ 1 = 2 from rfl,show 2 * a % 2 = 0 by omega,Nat.zero_xor] at this
  exact this
theorem bitN_even (k x:Nat):bitN (2 * k ^^^ x) = k ^^^ bitN x:=by
  have h1:(2 * k ^^^ x) % 2 = x % 2:=xor_mod2 k x
  have h2:(2 * k ^^^ x) / 2 = k ^^^ (x / 2):=by rw [Nat.xor_div_two]; congr 1; omega
  unfold bitN
  rw [h1,h2]
  split
  · rw [Nat.xor_assoc]
  · rfl
theorem xor_low (a b r:Nat) (hr:r < 2):2 * a ^^^ (2 * b+r) = 2 * (a ^^^ b)+r:=by
  have h1:(2 * a ^^^ (2 * b+r)) % 2 = r:=by rw [xor_mod2]; omega
  have h2:(2 * a ^^^ (2 * b+r)) / 2 = a ^^^ b:=by rw [Nat.xor_div_two]; congr 1 <;> omega
  omega
theorem split16 (h j:Nat) (hj:j < 16):16 * h ^^^ j = 16 * h+j:=by
  have e:∀ n:Nat,n = 2 * (n / 2)+n % 2:=fun n=>by omega
  rw [e j,show 16 * h = 2 * (8 * h) by omega,xor_low _ _ _ (by omega)]
  rw [e (j / 2),show 8 * h = 2 * (4 * h) by omega,xor_low _ _ _ (by omega)]
  rw [e (j / 2 / 2),show 4 * h = 2 * (2 * h) by omega,xor_low _ _ _ (by omega)]
  rw [e (j / 2 / 2 / 2),show 2 * h = 2 * h by omega,xor_low _ _ _ (by omega)]
  rw [show j / 2 / 2 / 2 / 2 = 0 by omega,Nat.xor_zero]
  omega
theorem half_bits:∀ j:_root_.Fin 16,bitN (bitN (bitN (bitN j.val))) = Nat.land (Nat.shiftRight halfT (Nat.mul 32 j.val)) 4294967295:=by decide
theorem stepN_bits (c:Nat):bitN (bitN (bitN (bitN c))) = stepN c:=by
  have e:c = 16 * (c / 16) ^^^ (c % 16):=by rw [split16 _ _ (by omega)]; omega
  have h4:=half_bits ⟨c % 16,by omega⟩
  have hl:Nat.land c 15 = c % 16:=Nat.and_two_pow_sub_one_eq_mod c 4
  have hs:Nat.shiftRight c 4 = c / 16:=Nat.shiftRight_eq_div_pow c 4
  unfold stepN
  rw [hl,hs]
  conv=>lhs; rw [e,show 16 * (c / 16) = 2 * (8 * (c / 16)) by omega,bitN_even,show 8 * (c / 16) = 2 * (4 * (c / 16)) by omega,bitN_even,show 4 * (c / 16) = 2 * (2 * (c / 16)) by omega,bitN_even,bitN_even]
  rw [h4]
  rfl
def itB:Nat→Nat→Nat
  | 0,c=>c
  | n+1,c=>bitN (itB n c)
theorem itB_8 (c:Nat):itB 8 c = stepN (stepN c):=by
  show bitN (bitN (bitN (bitN (bitN (bitN (bitN (bitN c))))))) = _
  rw [stepN_bits,stepN_bits]
theorem bitN_lt (c:Nat) (h:c < 4294967296):bitN c < 4294967296:=by
  unfold bitN
  split
  · exact Nat.xor_lt_two_pow (n:=32) (by omega) (by decide)
  · omega
theorem itB_lt (c:Nat) (h:c < 4294967296):∀ n,itB n c < 4294967296
  | 0=>h
  | n+1=>bitN_lt _ (itB_lt c h n)
theorem bits_and1 (a:Nat) (ha:a < 4294967296):bits .u32 .and (a:Int) 1 = ((a % 2:Nat):Int):=by
  have h:a &&& 1 = a % 2:=Nat.and_two_pow_sub_one_eq_mod a 1
  simp only [bits]
  have e:(BitVec.ofInt IntKind.u32.bits (a:Int) &&& BitVec.ofInt IntKind.u32.bits (1:Int)).toNat = a &&& 1:=by
    rw [show (1:Int) = ((1:Nat):Int) from rfl]
    simp only [BitVec.toNat_and,BitVec.ofInt_natCast,BitVec.toNat_ofNat]
    rw [show IntKind.u32.bits = 32 from rfl,Nat.mod_eq_of_lt ha]
  rw [e,h]
  exact u32_in _ (by omega)
theorem foldN_take (l:List Nat) (c k:Nat) (h:k < l.length):foldN (l.take (k+1)) c = byteN (foldN (l.take k) c) (l[k]'h):=by
  have app:∀ (a b:List Nat) (c:Nat),foldN (a ++ b) c = foldN b (foldN a c):=by
    intro a
    induction a with
    | nil=>intro b c; rfl
    | cons x r ih=>intro b c; exact ih b (byteN c x)
  rw [← List.take_append_getElem h,app]
  rfl
theorem refRun_ok (c:Nat) (r:Nat) (hr:r < 4294967296) (bs:List UInt8) (hl:bs.length≤1048576) (σ:List Ob) :
    Ok Try.prog 101 [.int .u32 r,.vec c 1 (bs.map eB)] σ (.ret (.int .u32 (foldN (bs.map UInt8.toNat) r:Nat))) σ:=by
  obtain ⟨X,hX⟩:∃ X,X = bs.map eB:=⟨_,rfl⟩
  have hXl:X.length = bs.length:=by rw [hX,List.length_map]
  obtain ⟨N,hN⟩:∃ N,N = bs.map UInt8.toNat:=⟨_,rfl⟩
  have hNl:N.length = bs.length:=by rw [hN,List.length_map]
  have hlt32:∀ k,foldN (N.take k) r < 4294967296:=fun k=>by
    have:=(foldN_eq (bs.take k) r hr).2
    rwa [List.map_take,← hN] at this
  rw [← hX,← hN]
  refine Ok.of_body layOk Try.func101 rfl (by decide) (by simp [Try.ntmps101]) fun C hP hn hσ hfix hdd=>?_
  rw [show Try.f101.ntmps = 34 from rfl] at hn
  have hL:LayOk C.P L:=hP ▸ layOk
  have hm:C.P.follows .mixedOrders = true:=hP ▸ mixed
  repeat (first|((first|refine sA hL hn rfl ?_|refine sB hL hn rfl ?_);simp only [go_sem,jf,jh,ji,ja,jb,reduceIte,jc,jg,jd,je,reduceCtorEq])|((first|refine sC ?_|refine sH ?_|refine sI ?_|refine sJ ?_);try simp only [jk,jl,jm,jn,if_true,if_false,jb])|refine sD ?_|refine sE ?_|refine sF rfl ?_|refine sG rfl ?_)
  refine SW.lpg (fun k:Nat=>⟨[(0,.int .u32 (foldN (N.take k) r:Nat)),(1,.vec c 1 X),(5,.int .i64 k)],σ⟩) (fun k=>bs.length - k) (fun k=>k≤bs.length) 0 (by omega) (.of rfl (by simp [agree,lk,foldN])) ?_
  intro k hk
  by_cases hlt:k < bs.length
  · have e1:decide ((k:Int) < (bs.length:Int)) = true:=decide_eq_true (by omega)
    have e2:(0≤(k:Int)∧(k:Int) < (bs.length:Int)):=by omega
    obtain ⟨b,hb⟩:∃ b,b = bs[k]'hlt:=⟨_,rfl⟩
    have hNk:N[k]'(by omega) = b.toNat:=by subst hN; simp [hb]
    have hft:=foldN_take N r k (by omega)
    rw [hNk] at hft
    have e3:X[k]?.getD .undef = .int .u8 (b.toNat:Int):=by rw [hX,hb]; simp [hlt,eB]
    have w2:IntKind.i64.wrap ((k:Int)+1) = ((k+1:Nat):Int):=wi (by omega) (by omega)
    have hbl:=b.toNat_lt
    have w3:IntKind.u32.wrap (b.toNat:Int) = (b.toNat:Int):=u32_in _ (by omega)
    obtain ⟨R,hR⟩:∃ R,R = foldN (N.take k) r:=⟨_,rfl⟩
    have hR32:=hlt32 k
    rw [← hR] at hft hR32 ⊢
    have hx:=bits_xor R b.toNat hR32 (by omega)
    obtain ⟨s,hs⟩:∃ s,s = Nat.xor R b.toNat:=⟨_,rfl⟩
    rw [← hs] at hx
    have hend:foldN (N.take (k+1)) r = itB 8 s:=by rw [hft,itB_8,hs]; rfl
    repeat (first|((first|refine sA hL hn rfl ?_|refine sB hL hn rfl ?_);simp only [go_sem,jf,jh,ji,ja,jb,reduceIte,jc,jg,jd,je,reduceCtorEq,e1,hXl,e2,e3,convDV,w3,hx.1])|((first|refine sC ?_|refine sH ?_|refine sI ?_|refine sJ ?_);try simp only [jk,jl,jm,jn,if_true,if_false,jb])|refine sD ?_|refine sE ?_|refine sF rfl ?_|refine sG rfl ?_)
    refine SW.lpg (fun j:Nat=>⟨[(0,.int .u32 (itB j s:Nat)),(1,.vec c 1 X),(5,.int .i64 k),(6,.int .i64 j)],σ⟩) (fun j=>8 - j) (fun j=>j≤8) 0 (by omega) (.of rfl (by simp [agree,lk,itB])) ?_
    intro j hj
    by_cases hjt:j < 8
    · have e4:decide ((j:Int) < 8) = true:=decide_eq_true (by omega)
      have w4:IntKind.i64.wrap ((j:Int)+1) = ((j+1:Nat):Int):=wi (by omega) (by omega)
      have hsu:itB (j+1) s = bitN (itB j s):=rfl
      have hq32:=itB_lt s hx.2 j
      obtain ⟨q,hq⟩:∃ q,q = itB j s:=⟨_,rfl⟩
      rw [← hq] at hsu hq32 ⊢
      have a1:=bits_and1 q hq32
      have z1:((1:Int) < 0) = False:=by decide
      have t1:Int.toNat 1 = 1:=rfl
      have f1:(q:Int).fdiv (2 ^ min 1 32) = ((q / 2:Nat):Int):=by
        rw [Int.fdiv_eq_ediv_of_nonneg _ (by decide)]
        rfl
      by_cases ho:q % 2 = 1
      · have d1:(((q % 2:Nat):Int) == 1) = true:=by rw [ho]; rfl
        have x1:=(bits_xor (q / 2) 2197175160 (by omega) (by decide)).1
        have hb1:itB (j+1) s = Nat.xor (q / 2) 2197175160:=by rw [hsu]; unfold bitN; rw [if_pos ho]; rfl
        rw [← hb1] at x1
        obtain ⟨h2,hh2⟩:∃ h2,h2 = q / 2:=⟨_,rfl⟩
        rw [← hh2] at f1 x1
        obtain ⟨md,hmd⟩:∃ md,md = q % 2:=⟨_,rfl⟩
        rw [← hmd] at a1 d1
        have x1':bits .u32 .xor (h2:Int) 2197175160 = ((itB (j+1) s:Nat):Int):=x1
        repeat (first|((first|refine sA hL hn rfl ?_|refine sB hL hn rfl ?_);simp only [go_sem,jf,jh,ji,ja,jb,reduceIte,jc,jg,jd,je,reduceCtorEq,e4,a1,d1,shiftInt,z1,t1,f1,x1',w4])|((first|refine sC ?_|refine sH ?_|refine sI ?_|refine sJ ?_);try simp only [jk,jl,jm,jn,if_true,if_false,jb])|refine sD ?_|refine sE ?_|refine sF rfl ?_|refine sG rfl ?_)
        exact Lp.nextg (j+1) (by omega) (by omega) (.of rfl (by simp [agree,lk]))
      · have d1:(((q % 2:Nat):Int) == 1) = false:=beq_eq_false_iff_ne.2 (by omega)
        have hb1:itB (j+1) s = q / 2:=by rw [hsu]; unfold bitN; rw [if_neg ho]
        obtain ⟨h2,hh2⟩:∃ h2,h2 = q / 2:=⟨_,rfl⟩
        rw [← hh2] at f1 hb1
        obtain ⟨md,hmd⟩:∃ md,md = q % 2:=⟨_,rfl⟩
        rw [← hmd] at a1 d1
        repeat (first|((first|refine sA hL hn rfl ?_|refine sB hL hn rfl ?_);simp only [go_sem,jf,jh,ji,ja,jb,reduceIte,jc,jg,jd,je,reduceCtorEq,e4,a1,d1,shiftInt,z1,t1,f1,w4])|((first|refine sC ?_|refine sH ?_|refine sI ?_|refine sJ ?_);try simp only [jk,jl,jm,jn,if_true,if_false,jb])|refine sD ?_|refine sE ?_|refine sF rfl ?_|refine sG rfl ?_)
        exact Lp.nextg (j+1) (by omega) (by omega) (.of rfl (by simp [agree,lk,hb1]))
    · have e4:decide ((j:Int) < 8) = false:=decide_eq_false (by omega)
      obtain rfl:j = 8:=by omega
      repeat (first|((first|refine sA hL hn rfl ?_|refine sB hL hn rfl ?_);simp only [go_sem,jf,jh,ji,ja,jb,reduceIte,jc,jg,jd,je,reduceCtorEq,e4,w2])|((first|refine sC ?_|refine sH ?_|refine sI ?_|refine sJ ?_);try simp only [jk,jl,jm,jn,if_true,if_false,jb])|refine sD ?_|refine sE ?_|refine sF rfl ?_|refine sG rfl ?_)
      exact Lp.nextg (k+1) (by omega) (by omega) (.of rfl (by simp [agree,lk,hend]))
  · have e1:decide ((k:Int) < (bs.length:Int)) = false:=decide_eq_false (by omega)
    obtain rfl:k = bs.length:=by omega
    rw [List.take_of_length_le (by omega)]
    repeat (first|((first|refine sA hL hn rfl ?_|refine sB hL hn rfl ?_);simp only [go_sem,jf,jh,ji,ja,jb,reduceIte,jc,jg,jd,je,reduceCtorEq,hXl,e1])|((first|refine sC ?_|refine sH ?_|refine sI ?_|refine sJ ?_);try simp only [jk,jl,jm,jn,if_true,if_false,jb])|refine sD ?_|refine sE ?_|refine sF rfl ?_|refine sG rfl ?_)
    exact ⟨_,_,_,Ghost.refl _ _,rfl,GhostV.refl _ _ _,rfl⟩
end Go.VL
end
section
set_option maxRecDepth 10000
set_option maxHeartbeats 2000000
namespace Go.VL
open Go Go.Proofs
open Nat renaming reduceAdd → ja, reduceEqDiff → jb, reduceSub → jc, reduceMul → jd, reduceLeDiff → je, reduceBEq → jf, reduceLT → jg
open Int renaming reduceLT → jh, reduceLE → ji
open Go.VL renaming thenK → jk, blockK → jl, loopK → jm, loopG → jn
def di72_4:List DI:=[⟨[0],[],false,[0],some 12,[]⟩,⟨[4],[],false,[0],some 13,[]⟩,⟨[12,13],[0,1],false,[0],some 14,[0,1]⟩,⟨[14],[0,1,2],false,[0],some 15,[2]⟩,⟨[15],rg 0 4,false,[0],some 16,[3]⟩,⟨[0],[],false,[0],some 17,[]⟩,⟨[17],[5],false,[0],some 18,[5]⟩,⟨[16,18],rg 0 7,false,[0],some 19,[4,6]⟩,⟨[19],rg 0 8,false,[0],some 11,[7,3]⟩]
theorem sumF_nat (bs:List UInt8):∃ s:Nat,sumF bs = (s:Int)∧s < 4294967296∧s = Nat.xor 4294967295 (foldN (bs.map UInt8.toNat) 4294967295):=by
  have h:=(foldN_eq bs 4294967295 (by decide)).2
  exact ⟨_,sumN_eq bs,Nat.xor_lt_two_pow (n:=32) (by decide) h,rfl⟩
theorem refSum_ok (c:Nat) (bs:List UInt8) (hl:bs.length≤1048576) (σ:List Ob):Ok Try.prog 95 [.vec c 1 (bs.map eB)] σ (.ret (.int .u32 (sumF bs))) σ:=by
  have hrun:=refRun_ok c 4294967295 (by decide) bs hl
  obtain ⟨s,h1,h2,h3⟩:=sumF_nat bs
  have h:=(foldN_eq bs 4294967295 (by decide)).2
  obtain ⟨r,hr⟩:∃ r,r = foldN (bs.map UInt8.toNat) 4294967295:=⟨_,rfl⟩
  rw [← hr] at h3 hrun h
  rw [h1]
  have hx:=(bits_xor 4294967295 r (by decide) h).1
  rw [← h3] at hx
  have hx':bits .u32 .xor IntKind.u32.max (r:Int) = (s:Int):=hx
  refine Ok.of_body layOk Try.func95 rfl (by decide) (by simp [Try.ntmps95]) fun C hP hn hσ hfix hdd=>?_
  rw [show Try.f95.ntmps = 6 from rfl] at hn
  have hL:LayOk C.P L:=hP ▸ layOk
  have hm:C.P.follows .mixedOrders = true:=hP ▸ mixed
  repeat (first|((first|refine sA hL hn rfl ?_|refine sB hL hn rfl ?_);simp only [go_sem,jf,jh,ji,ja,jb,reduceIte,jc,jg,jd,je,reduceCtorEq])|((first|refine sC ?_|refine sH ?_|refine sI ?_|refine sJ ?_);try simp only [jk,jl,jm,jn,if_true,if_false,jb])|refine sD ?_|refine sE ?_|refine sF rfl ?_|refine sG rfl ?_)
  have sg:(IntKind.u32.signed = true) = False:=by simp [IntKind.signed]
  refine sK hP hL hn rfl rfl (hrun _) rfl rfl rfl rfl ?_; simp (maxSteps:=2000000) only [go_sem,jf,jh,ji,ja,jb,reduceIte,jc,jg,jd,je,reduceCtorEq,hx',sg]
  repeat (first|((first|refine sA hL hn rfl ?_|refine sB hL hn rfl ?_);simp only [go_sem,jf,jh,ji,ja,jb,reduceIte,jc,jg,jd,je,reduceCtorEq,hx',sg])|((first|refine sC ?_|refine sH ?_|refine sI ?_|refine sJ ?_);try simp only [jk,jl,jm,jn,if_true,if_false,jb])|refine sD ?_|refine sE ?_|refine sF rfl ?_|refine sG rfl ?_)
  exact ⟨_,_,_,Ghost.refl _ _,rfl,GhostV.refl _ _ _,rfl⟩
theorem copiedRaw_ok (c:Nat) (bs:List UInt8) (hl:bs.length≤134217728) (σ:List Ob):Ok Try.prog 84 [.vec c 1 (bs.map eB)] σ (.ret (.sl σ.length bs.length 0 bs.length)) (σ ++ [.arr 5 1 (bs.map eB)]):=by
  by_cases h0:bs.length = 0
  · obtain rfl:=List.eq_nil_of_length_eq_zero h0
    refine Ok.of_body layOk Try.func84 rfl (by decide) (by simp [Try.ntmps84]) fun C hP hn hσ hfix hdd=>?_
    rw [show Try.f84.ntmps = 7 from rfl] at hn
    have hL:LayOk C.P L:=hP ▸ layOk
    have hm:C.P.follows .mixedOrders = true:=hP ▸ mixed
    repeat (first|((first|refine sA hL hn rfl ?_|refine sB hL hn rfl ?_);simp only [go_sem,jf,jh,ji,ja,jb,reduceIte,jc,jg,jd,je,reduceCtorEq,appDV])|((first|refine sC ?_|refine sH ?_|refine sI ?_|refine sJ ?_);try simp only [jk,jl,jm,jn,if_true,if_false,jb])|refine sD ?_|refine sE ?_|refine sF rfl ?_|refine sG rfl ?_)
    exact ⟨_,_,_,Ghost.refl _ _,rfl,GhostV.refl _ _ _,rfl⟩
  · have a1:=all_eB bs
    obtain ⟨X,hX⟩:∃ X,X = bs.map eB:=⟨_,rfl⟩
    have hXl:X.length = bs.length:=by rw [hX,List.length_map]
    simp only [DV.cells] at a1
    rw [← hX] at a1 ⊢
    have n0:(bs.length = 0) = False:=eq_false h0
    have hcap:(bs.length≤140737488355328) = True:=eq_true (by omega)
    refine Ok.of_body layOk Try.func84 rfl (by decide) (by simp [Try.ntmps84]) fun C hP hn hσ hfix hdd=>?_
    rw [show Try.f84.ntmps = 7 from rfl] at hn
    have hL:LayOk C.P L:=hP ▸ layOk
    have hm:C.P.follows .mixedOrders = true:=hP ▸ mixed
    repeat (first|((first|refine sA hL hn rfl ?_|refine sB hL hn rfl ?_);simp only [go_sem,jf,jh,ji,ja,jb,reduceIte,jc,jg,jd,je,reduceCtorEq,appDV,hXl,a1,n0,hcap])|((first|refine sC ?_|refine sH ?_|refine sI ?_|refine sJ ?_);try simp only [jk,jl,jm,jn,if_true,if_false,jb])|refine sD ?_|refine sE ?_|refine sF rfl ?_|refine sG rfl ?_)
    exact ⟨_,_,_,Ghost.refl _ _,rfl,GhostV.refl _ _ _,rfl⟩
theorem putB_four (s:Nat):(putB (s:Int) 4).map eB = [.int .u8 (IntKind.u8.wrap (s:Int)),.int .u8 (IntKind.u8.wrap ((s:Int).fdiv (2 ^ min 8 32))),.int .u8 (IntKind.u8.wrap ((s:Int).fdiv (2 ^ min 16 32))),.int .u8 (IntKind.u8.wrap ((s:Int).fdiv (2 ^ min 24 32)))]:=by
  have h:∀ i,eB (pB (s:Int) i) = .int .u8 (IntKind.u8.wrap ((s:Int).fdiv (2 ^ min (8 * i) 64))):=fun i=>eB_b8 _
  have e:putB (s:Int) 4 = [pB s 0,pB s 1,pB s 2,pB s 3]:=rfl
  rw [e]
  simp only [List.map_cons,List.map_nil,h]
  have h0:(s:Int).fdiv (2 ^ min (8 * 0) 64) = (s:Int):=by show (s:Int).fdiv 1 = _; simp
  rw [h0]
  rfl
theorem refSeal_ok (c:Nat) (bs:List UInt8) (hl:bs.length≤1048576) (σ:List Ob):Ok Try.prog 83 [.vec c 1 (bs.map eB)] σ (.ret (.vec 0 1 ((sealF bs).map eB))) σ:=by
  have hsum:=refSum_ok c bs hl
  have hcop:=copiedRaw_ok c bs (by omega)
  obtain ⟨s,h1,h2,_⟩:=sumF_nat bs
  have hw:IntKind.u64.wrap (s:Int) = (s:Int):=wu (by omega) rfl
  have hput:=putRes_nat s 4 (by omega) (by omega)
  have hz:s / 256 ^ 4 = 0:=Nat.div_eq_of_lt (by rw [show (256:Nat) ^ 4 = 4294967296 by decide]; exact h2)
  rw [hz,if_neg (by omega)] at hput
  have hseal:(sealF bs).map eB = bs.map eB ++ (putB (s:Int) 4).map eB:=by
    unfold sealF
    rw [h1,hw,show (4:Int) = ((4:Nat):Int) from rfl,hput,List.map_append]
  have hp4:=putB_four s
  rw [hseal]
  rw [h1] at hsum
  have a1:((bs.map eB ++ (putB (s:Int) 4).map eB).all fun y=>y.cells.all DV.one) = true:=by rw [← List.map_append]; exact all_eB _
  obtain ⟨X,hX⟩:∃ X,X = bs.map eB:=⟨_,rfl⟩
  have hXl:X.length = bs.length:=by rw [hX,List.length_map]
  have hlX:=low_bytes 0 c bs
  have hz2:∀ (O:List Ob) (l:List UInt8) (n:Nat),n = l.length→O[0]? = some (.arr 5 1 (l.map eB))→Fz O 0 (.sl 0 n 0 n) (.vec 0 1 (l.map eB)):=fun O l n hn ho=>by rw [hn]; exact Fz.list eB (low_eB 0) ho
  obtain ⟨B4,hB4⟩:∃ B4,B4 = putB (s:Int) 4:=⟨_,rfl⟩
  have hB4l:B4.length = 4:=by rw [hB4]; rfl
  rw [← hB4] at hp4 ⊢
  rw [← List.map_append]
  refine Ok.thaw (c:=0) (O:=[.arr 5 1 ((bs ++ B4).map eB),.arr 5 1 (B4.map eB)]) ?_ (hz2 _ (bs ++ B4) (bs.length+4) (by simp [hB4l]) rfl) (by simpa using hlX) σ
  rw [List.map_append,hp4,← hX]
  rw [← hX] at hsum hcop
  obtain ⟨v0,hv0⟩:∃ v,v = IntKind.u8.wrap (s:Int):=⟨_,rfl⟩
  obtain ⟨v1,hv1⟩:∃ v,v = (s:Int).fdiv (2 ^ min 8 32):=⟨_,rfl⟩
  obtain ⟨v2,hv2⟩:∃ v,v = (s:Int).fdiv (2 ^ min 16 32):=⟨_,rfl⟩
  obtain ⟨v3,hv3⟩:∃ v,v = (s:Int).fdiv (2 ^ min 24 32):=⟨_,rfl⟩
  rw [← hv0,← hv1,← hv2,← hv3]
  have z8:((8:Int) < 0) = False:=by decide
  have z16:((16:Int) < 0) = False:=by decide
  have z24:((24:Int) < 0) = False:=by decide
  have t8:Int.toNat 8 = 8:=rfl
  have t16:Int.toNat 16 = 16:=rfl
  have t24:Int.toNat 24 = 24:=rfl
  have hcap:(bs.length+4≤140737488355328) = True:=eq_true (by omega)
  refine Ok.of_body layOk Try.func83 rfl (by decide) (by simp [Try.ntmps83]) fun C hP hn hσ hfix hdd=>?_
  rw [show Try.f83.ntmps = 21 from rfl] at hn
  have hL:LayOk C.P L:=hP ▸ layOk
  have hm:C.P.follows .mixedOrders = true:=hP ▸ mixed
  repeat (first|((first|refine sA hL hn rfl ?_|refine sB hL hn rfl ?_);simp only [go_sem,jf,jh,ji,ja,jb,reduceIte,jc,jg,jd,je,reduceCtorEq])|((first|refine sC ?_|refine sH ?_|refine sI ?_|refine sJ ?_);try simp only [jk,jl,jm,jn,if_true,if_false,jb])|refine sD ?_|refine sE ?_|refine sF rfl ?_|refine sG rfl ?_)
  refine sK hP hL hn rfl rfl (hsum _) rfl rfl rfl rfl ?_; simp (maxSteps:=2000000) only [go_sem,jf,jh,ji,ja,jb,reduceIte,jc,jg,jd,je,reduceCtorEq]
  repeat (first|((first|refine sA hL hn rfl ?_|refine sB hL hn rfl ?_);simp only [go_sem,jf,jh,ji,ja,jb,reduceIte,jc,jg,jd,je,reduceCtorEq])|((first|refine sC ?_|refine sH ?_|refine sI ?_|refine sJ ?_);try simp only [jk,jl,jm,jn,if_true,if_false,jb])|refine sD ?_|refine sE ?_|refine sF rfl ?_|refine sG rfl ?_)
  have hcap2:(bs.length≤140737488355324) = True:=eq_true (by omega)
  refine sK hP hL hn rfl rfl (hcop _) rfl rfl rfl rfl ?_; simp (maxSteps:=2000000) only [go_sem,jf,jh,ji,ja,jb,reduceIte,jc,jg,jd,je,reduceCtorEq,convDV,shiftInt,z8,z16,z24,t8,t16,t24,← hv0,← hv1,← hv2,← hv3,appDV,hXl,hcap,hcap2]
  repeat (first|((first|refine sA hL hn rfl ?_|refine sB hL hn rfl ?_);simp only [go_sem,jf,jh,ji,ja,jb,reduceIte,jc,jg,jd,je,reduceCtorEq])|((first|refine sC ?_|refine sH ?_|refine sI ?_|refine sJ ?_);try simp only [jk,jl,jm,jn,if_true,if_false,jb])|refine sD ?_|refine sE ?_|refine sF rfl ?_|refine sG rfl ?_)
  exact ⟨_,_,_,Ghost.refl _ _,rfl,GhostV.refl _ _ _,rfl⟩
theorem leNat_putB (n:Nat):∀ k:Nat,k≤8→leNat (putB (n:Int) k) = n % 256 ^ k
  | 0,_=>by simp [putB,leNat]; omega
  | k+1,h=>by
    have ih:=leNat_putB n k (by omega)
    have e:putB (n:Int) (k+1) = putB n k ++ [pB n k]:=by simp [putB,List.range_succ]
    have hb:(pB (n:Int) k).toNat = n / 256 ^ k % 256:=by
      rw [pB_step n k (by omega)]
      unfold b8
      rw [IntKind.wrap_u8,UInt8.toNat_ofNat']
      omega
    rw [e,leNat_append,ih,putB_length]
    simp only [leNat]
    rw [hb,Nat.mul_zero,Nat.add_zero,Nat.pow_succ,Nat.mod_mul]
theorem leNat_inj:∀ (l r:List UInt8),l.length = r.length→leNat l = leNat r→l = r
  | [],[],_,_=>rfl
  | [],_ :: _,h,_=>by simp at h
  | _ :: _,[],h,_=>by simp at h
  | a :: l,b :: r,h,e=>by
    simp only [leNat] at e
    have ha:=a.toNat_lt
    have hb:=b.toNat_lt
    have e1:a.toNat = b.toNat:=by omega
    have e2:leNat l = leNat r:=by omega
    rw [leNat_inj l r (by simpa using h) e2,UInt8.toNat_inj.1 e1]
theorem open_seal (bs:List UInt8) (h:bs.length = 64):eqB (sealF (bs.take 60)) bs = true ↔ IntKind.u32.wrap (leNat ((bs.drop 60).take 4)) = sumF (bs.take 60):=by
  obtain ⟨s,h1,h2,_⟩:=sumF_nat (bs.take 60)
  have hw:IntKind.u64.wrap (s:Int) = (s:Int):=wu (by omega) rfl
  have hput:=putRes_nat s 4 (by omega) (by omega)
  have hz:s / 256 ^ 4 = 0:=Nat.div_eq_of_lt (by rw [show (256:Nat) ^ 4 = 4294967296 by decide]; exact h2)
  rw [hz,if_neg (by omega)] at hput
  have hseal:sealF (bs.take 60) = bs.take 60 ++ putB (s:Int) 4:=by
    unfold sealF
    rw [h1,hw,show (4:Int) = ((4:Nat):Int) from rfl,hput]
  have ht:(bs.drop 60).take 4 = bs.drop 60:=List.take_of_length_le (by simp; omega)
  have hl4:(bs.drop 60).length = 4:=by simp; omega
  have hlt:leNat (bs.drop 60) < 4294967296:=by
    have:=leNat_lt (bs.drop 60)
    rw [hl4] at this
    exact this
  have hls:=leNat_putB s 4 (by omega)
  rw [Nat.mod_eq_of_lt (by rw [show (256:Nat) ^ 4 = 4294967296 by decide]; exact h2)] at hls
  have hsplit:bs.take 60 ++ bs.drop 60 = bs:=List.take_append_drop 60 bs
  rw [eqB_iff,hseal,ht,u32_in _ hlt,h1]
  constructor
  · intro e
    have:putB (s:Int) 4 = bs.drop 60:=by
      rw [← hsplit] at e
      have e':bs.take 60 ++ putB (s:Int) 4 = bs.take 60 ++ bs.drop 60:=by
        conv at e=>lhs; rw [hsplit]
        rw [e]
      exact List.append_cancel_left e'
    rw [← this,hls]
  · intro e
    have:leNat (bs.drop 60) = s:=by exact_mod_cast e
    have h4:putB (s:Int) 4 = bs.drop 60:=leNat_inj _ _ (by rw [putB_length,hl4]) (by rw [hls,this])
    rw [h4,hsplit]
theorem refOpen_ok (c:Nat) (bs:List UInt8) (h:bs.length = 64) (σ:List Ob):Ok Try.prog 72 [.vec c 1 (bs.map eB)] σ (.ret (.tup [.vec 0 1 ((openF bs).1.map eB),.int .i64 (openF bs).2])) σ:=by
  have hos:=open_seal bs h
  have hseal:=refSeal_ok c (bs.take 60) (by simp; omega)
  have hcop:=copied_ok c (bs.take 60) (by simp; omega)
  have hlX:=low_bytes 0 c bs
  obtain ⟨Z,hZ⟩:∃ Z,Z = sealF (bs.take 60):=⟨_,rfl⟩
  rw [← hZ] at hos hseal
  obtain ⟨X,hX⟩:∃ X,X = bs.map eB:=⟨_,rfl⟩
  have hXl:X.length = 64:=by rw [hX,List.length_map,h]
  obtain ⟨Y,hY⟩:∃ Y,Y = (bs.take 60).map eB:=⟨_,rfl⟩
  have hXY:X.take 60 = Y:=by rw [hX,hY,List.map_take]
  have hlY:Low 0 (.vec 0 1 Y):=by rw [hY]; exact low_bytes 0 0 _
  have w1:IntKind.i64.wrap (((64:Nat):Int) - 4) = 60:=rfl
  have b1:bound (some (.int .i64 60)) 64 64 = some 60:=rfl
  have b0:bound none 0 60 = some 0:=rfl
  have ho:isOct L 5 = true:=rfl
  have oX:octs X = some bs:=by rw [hX]; exact octs_eB bs
  have oZ:octs (Z.map eB) = some Z:=octs_eB Z
  obtain ⟨ZD,hZD⟩:∃ ZD,ZD = Z.map eB:=⟨_,rfl⟩
  rw [← hY] at hseal hcop
  rw [← hZD] at hseal oZ
  rw [← hX] at hlX ⊢
  by_cases hq:IntKind.u32.wrap (leNat ((bs.drop 60).take 4)) = sumF (bs.take 60)
  · have he:=hos.2 hq
    unfold eqB at he
    rw [show openF bs = (bs.take 60,0) by simp [openF,hq],← hY]
    refine Ok.thaw (c:=0) (O:=[]) ?_ (.low (by simp [low_tup,low_int,hlY])) (by simpa using hlX) σ
    refine Ok.of_body layOk Try.func72 rfl (by decide) (by simp [Try.ntmps72]) fun C hP hn hσ hfix hdd=>?_
    rw [show Try.f72.ntmps = 24 from rfl] at hn
    have hL:LayOk C.P L:=hP ▸ layOk
    have hm:C.P.follows .mixedOrders = true:=hP ▸ mixed
    repeat (first|((first|refine sA hL hn rfl ?_|refine sB hL hn rfl ?_);simp only [go_sem,jf,jh,ji,ja,jb,reduceIte,jc,jg,jd,je,reduceCtorEq,hXl,w1])|((first|refine sC ?_|refine sH ?_|refine sI ?_|refine sJ ?_);try simp only [jk,jl,jm,jn,if_true,if_false,jb])|refine sD ?_|refine sE ?_|refine sF rfl ?_|refine sG rfl ?_)
    refine sM hL hm hn di72_4 [[]] rfl rfl rfl ?_
    unfold di72_4
    repeat (rw [dgo_cons]; simp (maxSteps:=2000000) only [go_sem,jf,jh,ji,ja,jb,reduceIte,jc,jg,jd,je,reduceCtorEq,hXl,sliceDV,b1,b0,hXY,List.drop_zero])
    try rw [dgo_nil]
    try simp only [go_sem,jf,jh,ji,ja,jb,reduceIte,jc,jg,jd,je,reduceCtorEq,hXl,sliceDV,b1,b0,hXY,List.drop_zero]
    refine DCall.pure hP (fun q _=>hseal _) rfl rfl rfl rfl ?_; repeat (simp (maxSteps:=2000000) only [go_sem,jf,jh,ji,ja,jb,reduceIte,jc,jg,jd,je,reduceCtorEq,oX,oZ,ho,binStr,he]; first | rw [dgo_cons] | rw [dgo_nil])
    try simp only [go_sem,jf,jh,ji,ja,jb,reduceIte,jc,jg,jd,je,reduceCtorEq,oX,oZ,ho,binStr,he]
    repeat (first|((first|refine sA hL hn rfl ?_|refine sB hL hn rfl ?_);simp only [go_sem,jf,jh,ji,ja,jb,reduceIte,jc,jg,jd,je,reduceCtorEq,hXl,sliceDV,b1,b0,hXY,List.drop_zero])|((first|refine sC ?_|refine sH ?_|refine sI ?_|refine sJ ?_);try simp only [jk,jl,jm,jn,if_true,if_false,jb])|refine sD ?_|refine sE ?_|refine sF rfl ?_|refine sG rfl ?_)
    refine sK hP hL hn rfl rfl (hcop _) rfl rfl rfl rfl ?_; simp (maxSteps:=2000000) only [go_sem,jf,jh,ji,ja,jb,reduceIte,jc,jg,jd,je,reduceCtorEq]
    repeat (first|((first|refine sA hL hn rfl ?_|refine sB hL hn rfl ?_);simp only [go_sem,jf,jh,ji,ja,jb,reduceIte,jc,jg,jd,je,reduceCtorEq])|((first|refine sC ?_|refine sH ?_|refine sI ?_|refine sJ ?_);try simp only [jk,jl,jm,jn,if_true,if_false,jb])|refine sD ?_|refine sE ?_|refine sF rfl ?_|refine sG rfl ?_)
    exact ⟨_,_,_,Ghost.refl _ _,rfl,GhostV.refl _ _ _,rfl⟩
  · have he:eqB Z bs = false:=by
      cases h:eqB Z bs with
      | false=>rfl
      | true=>exact absurd (hos.1 h) hq
    unfold eqB at he
    rw [show openF bs = ([],21) by simp [openF,hq]]
    refine Ok.thaw (c:=0) (O:=[]) (d:=.tup [.nils,.int .i64 21]) ?_ (.two .nil .int) (by simpa using hlX) σ
    refine Ok.of_body layOk Try.func72 rfl (by decide) (by simp [Try.ntmps72]) fun C hP hn hσ hfix hdd=>?_
    rw [show Try.f72.ntmps = 24 from rfl] at hn
    have hL:LayOk C.P L:=hP ▸ layOk
    have hm:C.P.follows .mixedOrders = true:=hP ▸ mixed
    repeat (first|((first|refine sA hL hn rfl ?_|refine sB hL hn rfl ?_);simp only [go_sem,jf,jh,ji,ja,jb,reduceIte,jc,jg,jd,je,reduceCtorEq,hXl,w1])|((first|refine sC ?_|refine sH ?_|refine sI ?_|refine sJ ?_);try simp only [jk,jl,jm,jn,if_true,if_false,jb])|refine sD ?_|refine sE ?_|refine sF rfl ?_|refine sG rfl ?_)
    refine sM hL hm hn di72_4 [[]] rfl rfl rfl ?_
    unfold di72_4
    repeat (rw [dgo_cons]; simp (maxSteps:=2000000) only [go_sem,jf,jh,ji,ja,jb,reduceIte,jc,jg,jd,je,reduceCtorEq,hXl,sliceDV,b1,b0,hXY,List.drop_zero])
    try rw [dgo_nil]
    try simp only [go_sem,jf,jh,ji,ja,jb,reduceIte,jc,jg,jd,je,reduceCtorEq,hXl,sliceDV,b1,b0,hXY,List.drop_zero]
    refine DCall.pure hP (fun q _=>hseal _) rfl rfl rfl rfl ?_; repeat (simp (maxSteps:=2000000) only [go_sem,jf,jh,ji,ja,jb,reduceIte,jc,jg,jd,je,reduceCtorEq,oX,oZ,ho,binStr,he]; first | rw [dgo_cons] | rw [dgo_nil])
    try simp only [go_sem,jf,jh,ji,ja,jb,reduceIte,jc,jg,jd,je,reduceCtorEq,oX,oZ,ho,binStr,he]
    repeat (first|((first|refine sA hL hn rfl ?_|refine sB hL hn rfl ?_);simp only [go_sem,jf,jh,ji,ja,jb,reduceIte,jc,jg,jd,je,reduceCtorEq])|((first|refine sC ?_|refine sH ?_|refine sI ?_|refine sJ ?_);try simp only [jk,jl,jm,jn,if_true,if_false,jb])|refine sD ?_|refine sE ?_|refine sF rfl ?_|refine sG rfl ?_)
    exact ⟨_,_,_,Ghost.refl _ _,rfl,GhostV.refl _ _ _,rfl⟩
end Go.VL
end
