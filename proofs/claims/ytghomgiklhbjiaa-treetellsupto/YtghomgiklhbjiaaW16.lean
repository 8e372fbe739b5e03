/- Proved: TreeTells: whatever tree, root, key and number come in (together of bulk at most 1048576), the call returns true and they read as they did; no other condition. This text is part 16 of 18. -/
import Derived.Test.YtghomgiklhbjiaaW15
set_option linter.unusedSimpArgs false
set_option linter.unusedVariables false
section
set_option maxRecDepth 10000
set_option maxHeartbeats 4000000
namespace Go.VL
open Go Go.Proofs
open Nat renaming reduceAdd → ja, reduceEqDiff → jb, reduceSub → jc, reduceMul → jd, reduceLeDiff → je, reduceBEq → jf, reduceLT → jg
open Int renaming reduceLT → jh, reduceLE → ji
open Go.VL renaming thenK → jk, blockK → jl, loopK → jm, loopG → jn
abbrev I64 (n:Int):Prop:=-9223372036854775808≤n∧n≤9223372036854775807
theorem refCheckT_ok (c:Nat) (ps:List Pg) (root:Int) (hroot:I64 root) (σ:List Ob):Ok Try.prog 21 [.agg [pgsD c ps],.int .i64 root] σ (.ret (.int .i64 (refReadF ps root).2.2)) σ:=by
  have hr:=refRead_ok c ps root hroot
  have hl:=low_pgs 0 c ps
  obtain ⟨P,hPe⟩:∃ P,P = pgsD c ps:=⟨_,rfl⟩
  obtain ⟨D1,hD1⟩:∃ D1,D1 = DV.vec 0 2 ((refReadF ps root).1.map eT):=⟨_,rfl⟩
  obtain ⟨D2,hD2⟩:∃ D2,D2 = DV.vec 0 1 ((refReadF ps root).2.1.map eI):=⟨_,rfl⟩
  obtain ⟨e,he⟩:∃ e,e = (refReadF ps root).2.2:=⟨_,rfl⟩
  rw [← hPe,← hD1,← hD2,← he] at hr
  rw [← hPe] at hl ⊢
  rw [← he]
  refine Ok.thaw (c:=0) (O:=[.arr 24 1 [.agg [P]]]) ?_ .int (by simp [lk,low_int,low_bool,low_str,low_nils,low_nilp,low_nilf,low_nili,low_undef,low_skip,low_vec,low_agg,low_tup,low_fn,low_vptr,low_iface,low_ptr,low_sl,low_mp,low_it,low_yld,low_emp,lowEnv,lowObs,lowOb,tmpObs,isArr,hl]) σ
  refine Ok.of_body layOk Try.func21 rfl (by decide) (by simp [Try.ntmps21]) fun C hP hn hσ hfix hdd=>?_
  rw [show Try.f21.ntmps = 16 from rfl] at hn
  have hL:LayOk C.P L:=hP ▸ layOk
  have hm:C.P.follows .mixedOrders = true:=hP ▸ mixed
  repeat (first|((first|refine sA hL hn rfl ?_|refine sB hL hn rfl ?_);simp only [go_sem,jf,jh,ji,ja,jb,reduceIte,jc,jg,jd,je,reduceCtorEq])|((first|refine sC ?_|refine sH ?_|refine sI ?_|refine sJ ?_);try simp only [jk,jl,jm,jn,if_true,if_false,jb])|refine sD ?_|refine sE ?_|refine sF rfl ?_|refine sG rfl ?_)
  refine sK hP hL hn rfl rfl (hr _) rfl rfl rfl rfl ?_; simp (maxSteps:=2000000) only [go_sem,jf,jh,ji,ja,jb,reduceIte,jc,jg,jd,je,reduceCtorEq]
  repeat (first|((first|refine sA hL hn rfl ?_|refine sB hL hn rfl ?_);simp only [go_sem,jf,jh,ji,ja,jb,reduceIte,jc,jg,jd,je,reduceCtorEq])|((first|refine sC ?_|refine sH ?_|refine sI ?_|refine sJ ?_);try simp only [jk,jl,jm,jn,if_true,if_false,jb])|refine sD ?_|refine sE ?_|refine sF rfl ?_|refine sG rfl ?_)
  exact ⟨_,_,_,Ghost.refl _ _,rfl,GhostV.refl _ _ _,rfl⟩
theorem refItems_ok (c:Nat) (ps:List Pg) (root:Int) (hroot:I64 root) (σ:List Ob):Ok Try.prog 32 [.agg [pgsD c ps],.int .i64 root] σ (.ret (.tup [.vec 0 2 ((refReadF ps root).1.map eT),.int .i64 (refReadF ps root).2.2])) σ:=by
  have hr:=refRead_ok c ps root hroot
  have hl:=low_pgs 0 c ps
  have hl1:=low_items 0 0 (refReadF ps root).1
  obtain ⟨P,hPe⟩:∃ P,P = pgsD c ps:=⟨_,rfl⟩
  obtain ⟨D1,hD1⟩:∃ D1,D1 = DV.vec 0 2 ((refReadF ps root).1.map eT):=⟨_,rfl⟩
  obtain ⟨D2,hD2⟩:∃ D2,D2 = DV.vec 0 1 ((refReadF ps root).2.1.map eI):=⟨_,rfl⟩
  obtain ⟨e,he⟩:∃ e,e = (refReadF ps root).2.2:=⟨_,rfl⟩
  rw [← hPe,← hD1,← hD2,← he] at hr
  rw [← hPe] at hl ⊢
  rw [← hD1] at hl1
  rw [← he,← hD1]
  refine Ok.thaw (c:=0) (O:=[.arr 24 1 [.agg [P]]]) ?_ (.low (by simp [lk,low_int,low_bool,low_str,low_nils,low_nilp,low_nilf,low_nili,low_undef,low_skip,low_vec,low_agg,low_tup,low_fn,low_vptr,low_iface,low_ptr,low_sl,low_mp,low_it,low_yld,low_emp,lowEnv,lowObs,lowOb,tmpObs,isArr,hl1])) (by simp [lk,low_int,low_bool,low_str,low_nils,low_nilp,low_nilf,low_nili,low_undef,low_skip,low_vec,low_agg,low_tup,low_fn,low_vptr,low_iface,low_ptr,low_sl,low_mp,low_it,low_yld,low_emp,lowEnv,lowObs,lowOb,tmpObs,isArr,hl]) σ
  refine Ok.of_body layOk Try.func32 rfl (by decide) (by simp [Try.ntmps32]) fun C hP hn hσ hfix hdd=>?_
  rw [show Try.f32.ntmps = 18 from rfl] at hn
  have hL:LayOk C.P L:=hP ▸ layOk
  have hm:C.P.follows .mixedOrders = true:=hP ▸ mixed
  repeat (first|((first|refine sA hL hn rfl ?_|refine sB hL hn rfl ?_);simp only [go_sem,jf,jh,ji,ja,jb,reduceIte,jc,jg,jd,je,reduceCtorEq])|((first|refine sC ?_|refine sH ?_|refine sI ?_|refine sJ ?_);try simp only [jk,jl,jm,jn,if_true,if_false,jb])|refine sD ?_|refine sE ?_|refine sF rfl ?_|refine sG rfl ?_)
  refine sK hP hL hn rfl rfl (hr _) rfl rfl rfl rfl ?_; simp (maxSteps:=2000000) only [go_sem,jf,jh,ji,ja,jb,reduceIte,jc,jg,jd,je,reduceCtorEq]
  repeat (first|((first|refine sA hL hn rfl ?_|refine sB hL hn rfl ?_);simp only [go_sem,jf,jh,ji,ja,jb,reduceIte,jc,jg,jd,je,reduceCtorEq])|((first|refine sC ?_|refine sH ?_|refine sI ?_|refine sJ ?_);try simp only [jk,jl,jm,jn,if_true,if_false,jb])|refine sD ?_|refine sE ?_|refine sF rfl ?_|refine sG rfl ?_)
  exact ⟨_,_,_,Ghost.refl _ _,rfl,GhostV.refl _ _ _,rfl⟩
theorem refReach_ok (c:Nat) (ps:List Pg) (root:Int) (hroot:I64 root) (σ:List Ob):Ok Try.prog 15 [.agg [pgsD c ps],.int .i64 root] σ (.ret (.tup [.vec 0 1 ((refReadF ps root).2.1.map eI),.int .i64 (refReadF ps root).2.2])) σ:=by
  have hr:=refRead_ok c ps root hroot
  have hl:=low_pgs 0 c ps
  have hl1:=low_kids 0 0 (refReadF ps root).2.1
  obtain ⟨P,hPe⟩:∃ P,P = pgsD c ps:=⟨_,rfl⟩
  obtain ⟨D1,hD1⟩:∃ D1,D1 = DV.vec 0 2 ((refReadF ps root).1.map eT):=⟨_,rfl⟩
  obtain ⟨D2,hD2⟩:∃ D2,D2 = DV.vec 0 1 ((refReadF ps root).2.1.map eI):=⟨_,rfl⟩
  obtain ⟨e,he⟩:∃ e,e = (refReadF ps root).2.2:=⟨_,rfl⟩
  rw [← hPe,← hD1,← hD2,← he] at hr
  rw [← hPe] at hl ⊢
  rw [← hD2] at hl1
  rw [← he,← hD2]
  refine Ok.thaw (c:=0) (O:=[.arr 24 1 [.agg [P]]]) ?_ (.low (by simp [lk,low_int,low_bool,low_str,low_nils,low_nilp,low_nilf,low_nili,low_undef,low_skip,low_vec,low_agg,low_tup,low_fn,low_vptr,low_iface,low_ptr,low_sl,low_mp,low_it,low_yld,low_emp,lowEnv,lowObs,lowOb,tmpObs,isArr,hl1])) (by simp [lk,low_int,low_bool,low_str,low_nils,low_nilp,low_nilf,low_nili,low_undef,low_skip,low_vec,low_agg,low_tup,low_fn,low_vptr,low_iface,low_ptr,low_sl,low_mp,low_it,low_yld,low_emp,lowEnv,lowObs,lowOb,tmpObs,isArr,hl]) σ
  refine Ok.of_body layOk Try.func15 rfl (by decide) (by simp [Try.ntmps15]) fun C hP hn hσ hfix hdd=>?_
  rw [show Try.f15.ntmps = 18 from rfl] at hn
  have hL:LayOk C.P L:=hP ▸ layOk
  have hm:C.P.follows .mixedOrders = true:=hP ▸ mixed
  repeat (first|((first|refine sA hL hn rfl ?_|refine sB hL hn rfl ?_);simp only [go_sem,jf,jh,ji,ja,jb,reduceIte,jc,jg,jd,je,reduceCtorEq])|((first|refine sC ?_|refine sH ?_|refine sI ?_|refine sJ ?_);try simp only [jk,jl,jm,jn,if_true,if_false,jb])|refine sD ?_|refine sE ?_|refine sF rfl ?_|refine sG rfl ?_)
  refine sK hP hL hn rfl rfl (hr _) rfl rfl rfl rfl ?_; simp (maxSteps:=2000000) only [go_sem,jf,jh,ji,ja,jb,reduceIte,jc,jg,jd,je,reduceCtorEq]
  repeat (first|((first|refine sA hL hn rfl ?_|refine sB hL hn rfl ?_);simp only [go_sem,jf,jh,ji,ja,jb,reduceIte,jc,jg,jd,je,reduceCtorEq])|((first|refine sC ?_|refine sH ?_|refine sI ?_|refine sJ ?_);try simp only [jk,jl,jm,jn,if_true,if_false,jb])|refine sD ?_|refine sE ?_|refine sF rfl ?_|refine sG rfl ?_)
  exact ⟨_,_,_,Ghost.refl _ _,rfl,GhostV.refl _ _ _,rfl⟩
def rfGo (key:Int):List It→It × Bool→It × Bool
  | [],q=>q
  | x :: r,q=>rfGo key r (if x.1≤key then (x,true) else q)
theorem refFloor_ok (c:Nat) (ps:List Pg) (root key:Int) (hroot:I64 root) (hlen:(refReadF ps root).1.length≤1000000000000) (σ:List Ob):Ok Try.prog 11 [.agg [pgsD c ps],.int .i64 root,.int .u64 key] σ
    (.ret (.tup [eT (rfGo key (refReadF ps root).1 ((0,0),false)).1,.bool (rfGo key (refReadF ps root).1 ((0,0),false)).2,.int .i64 (refReadF ps root).2.2])) σ:=by
  have hr:=refItems_ok c ps root hroot
  have hl:=low_pgs 0 c ps
  obtain ⟨l,hle⟩:∃ l,l = (refReadF ps root).1:=⟨_,rfl⟩
  obtain ⟨P,hPe⟩:∃ P,P = pgsD c ps:=⟨_,rfl⟩
  obtain ⟨e,he⟩:∃ e,e = (refReadF ps root).2.2:=⟨_,rfl⟩
  rw [← hPe,← hle,← he] at hr
  rw [← hPe] at hl ⊢
  rw [← hle] at hlen
  rw [← he,← hle]
  obtain ⟨R,hR⟩:∃ R,R = rfGo key l ((0,0),false):=⟨_,rfl⟩
  rw [← hR]
  obtain ⟨X,hX⟩:∃ X,X = l.map eT:=⟨_,rfl⟩
  have hXl:X.length = l.length:=by rw [hX,List.length_map]
  rw [← hX] at hr
  refine (OkE.thaw (c:=0) (R:=fun D=>D = .tup [eT R.1,.bool R.2,.int .i64 e]) ?_ (by simp [lk,low_int,low_bool,low_str,low_nils,low_nilp,low_nilf,low_nili,low_undef,low_skip,low_vec,low_agg,low_tup,low_fn,low_vptr,low_iface,low_ptr,low_sl,low_mp,low_it,low_yld,low_emp,lowEnv,lowObs,lowOb,tmpObs,isArr,hl]) σ).ok fun o σ' ⟨e,D',e1,e2⟩=>by subst e2; exact ⟨e1,e⟩
  refine OkE.of_body layOk Try.func11 rfl (by decide) (by simp [Try.ntmps11]) fun C hP hn hσ hfix hdd=>?_
  rw [show Try.f11.ntmps = 40 from rfl] at hn
  have hL:LayOk C.P L:=hP ▸ layOk
  have hm:C.P.follows .mixedOrders = true:=hP ▸ mixed
  repeat (first|((first|refine sA hL hn rfl ?_|refine sB hL hn rfl ?_);simp only [go_sem,jf,jh,ji,ja,jb,reduceIte,jc,jg,jd,je,reduceCtorEq])|((first|refine sC ?_|refine sH ?_|refine sI ?_|refine sJ ?_);try simp only [jk,jl,jm,jn,if_true,if_false,jb])|refine sD ?_|refine sE ?_|refine sF rfl ?_|refine sG rfl ?_)
  refine sK hP hL hn rfl rfl (hr _) rfl rfl rfl rfl ?_; simp (maxSteps:=2000000) only [go_sem,jf,jh,ji,ja,jb,reduceIte,jc,jg,jd,je,reduceCtorEq]
  repeat (first|((first|refine sA hL hn rfl ?_|refine sB hL hn rfl ?_);simp only [go_sem,jf,jh,ji,ja,jb,reduceIte,jc,jg,jd,je,reduceCtorEq])|((first|refine sC ?_|refine sH ?_|refine sI ?_|refine sJ ?_);try simp only [jk,jl,jm,jn,if_true,if_false,jb])|refine sD ?_|refine sE ?_|refine sF rfl ?_|refine sG rfl ?_)
  refine SW.lpg (fun x:Nat × It × Bool=>⟨[(2,.int .u64 key),(6,.ptr 1 1 0 0),(9,.vec 0 2 X),(10,.int .i64 e),(11,.ptr 2 1 0 0),(12,.bool x.2.2),(13,.int .i64 x.1)],[.arr 24 1 [.agg [P]],.arr 27 2 [.agg [.int .u64 0,.int .u64 0]],.arr 27 2 [.agg [.int .u64 x.2.1.1,.int .u64 x.2.1.2]]]⟩) (fun x=>l.length - x.1) (fun x=>x.1≤l.length∧R = rfGo key (l.drop x.1) x.2) (0,(0,0),false) ⟨by simp,hR⟩ (.of rfl (by simp [agree,lk])) ?_
  rintro ⟨k,⟨q1,q2⟩,is⟩ ⟨hk,hrest⟩
  simp only at hk hrest
  by_cases hlt:k < l.length
  · have e1:decide ((k:Int) < (l.length:Int)) = true:=decide_eq_true (by omega)
    have e2:(0≤(k:Int)∧(k:Int) < (l.length:Int)):=by omega
    obtain ⟨p,hp⟩:∃ p,p = l[k]'hlt:=⟨_,rfl⟩
    rw [List.drop_eq_getElem_cons hlt,← hp] at hrest
    simp only [rfGo] at hrest
    obtain ⟨p1,p2⟩:=p
    have e3:X[k]?.getD .undef = .agg [.int .u64 p1,.int .u64 p2]:=by rw [hX]; simp [hlt,eT,← hp]
    have w2:IntKind.i64.wrap ((k:Int)+1) = ((k+1:Nat):Int):=wi (by omega) (by omega)
    by_cases hle:p1≤key
    · rw [if_pos hle] at hrest
      have d1:decide (p1≤key) = true:=decide_eq_true hle
      repeat (first|((first|refine sA hL hn rfl ?_|refine sB hL hn rfl ?_);simp only [go_sem,jf,jh,ji,ja,jb,reduceIte,jc,jg,jd,je,reduceCtorEq,e1,hXl,e2,e3,d1,w2])|((first|refine sC ?_|refine sH ?_|refine sI ?_|refine sJ ?_);try simp only [jk,jl,jm,jn,if_true,if_false,jb])|refine sD ?_|refine sE ?_|refine sF rfl ?_|refine sG rfl ?_)
      exact Lp.nextg (k+1,(p1,p2),true) ⟨by show k+1≤_; omega,hrest⟩ (by show l.length - (k+1) < _; omega) (.of rfl (by simp [agree,lk]))
    · rw [if_neg hle] at hrest
      have d1:decide (p1≤key) = false:=decide_eq_false hle
      repeat (first|((first|refine sA hL hn rfl ?_|refine sB hL hn rfl ?_);simp only [go_sem,jf,jh,ji,ja,jb,reduceIte,jc,jg,jd,je,reduceCtorEq,e1,hXl,e2,e3,d1,w2])|((first|refine sC ?_|refine sH ?_|refine sI ?_|refine sJ ?_);try simp only [jk,jl,jm,jn,if_true,if_false,jb])|refine sD ?_|refine sE ?_|refine sF rfl ?_|refine sG rfl ?_)
      exact Lp.nextg (k+1,(q1,q2),is) ⟨by show k+1≤_; omega,hrest⟩ (by show l.length - (k+1) < _; omega) (.of rfl (by simp [agree,lk]))
  · have e1:decide ((k:Int) < (l.length:Int)) = false:=decide_eq_false (by omega)
    rw [List.drop_of_length_le (by omega)] at hrest
    simp only [rfGo] at hrest
    repeat (first|((first|refine sA hL hn rfl ?_|refine sB hL hn rfl ?_);simp only [go_sem,jf,jh,ji,ja,jb,reduceIte,jc,jg,jd,je,reduceCtorEq,e1,hXl])|((first|refine sC ?_|refine sH ?_|refine sI ?_|refine sJ ?_);try simp only [jk,jl,jm,jn,if_true,if_false,jb])|refine sD ?_|refine sE ?_|refine sF rfl ?_|refine sG rfl ?_)
    refine ⟨_,_,?_,_,(.tup [.agg [.int .u64 q1,.int .u64 q2],.bool is,.int .i64 e]),_,Ghost.refl _ _,?_,GhostV.refl _ _ _,rfl⟩
    rotate_left
    show resDV L _ [Go.ResultVar.cell 6 27,Go.ResultVar.tmp 7,Go.ResultVar.tmp 8] = _
    simp only [resDV,resL,resDV1,go_sem,jf,jh,ji,ja,jb,reduceIte,jc,jg,jd,je,reduceCtorEq]
    exact ⟨_,_,rfl,.low (by simp [lk,low_int,low_bool,low_str,low_nils,low_nilp,low_nilf,low_nili,low_undef,low_skip,low_vec,low_agg,low_tup,low_fn,low_vptr,low_iface,low_ptr,low_sl,low_mp,low_it,low_yld,low_emp,lowEnv,lowObs,lowOb,tmpObs,isArr]),by rw [hrest]; rfl⟩
def rrGo (key n:Int):List It→List It→List It
  | [],out=>out
  | x :: r,out=>if (out.length:Int) < n then rrGo key n r (if x.1 ≥ key then out ++ [x] else out) else out
theorem refRange_ok (c:Nat) (ps:List Pg) (root key n:Int) (hroot:I64 root) (hlen:(refReadF ps root).1.length≤1000000000000) (σ:List Ob):Ok Try.prog 13 [.agg [pgsD c ps],.int .i64 root,.int .u64 key,.int .i64 n] σ
    (.ret (.tup [.vec 0 2 ((if (refReadF ps root).2.2 ≠ 0∨n < 0 then [] else rrGo key n (refReadF ps root).1 []).map eT),.int .i64 (if (refReadF ps root).2.2 ≠ 0 then (refReadF ps root).2.2 else if n < 0 then 4 else 0)])) σ:=by
  have hr:=refItems_ok c ps root hroot
  have hl:=low_pgs 0 c ps
  obtain ⟨l,hle⟩:∃ l,l = (refReadF ps root).1:=⟨_,rfl⟩
  obtain ⟨P,hPe⟩:∃ P,P = pgsD c ps:=⟨_,rfl⟩
  obtain ⟨e,he⟩:∃ e,e = (refReadF ps root).2.2:=⟨_,rfl⟩
  rw [← hPe,← hle,← he] at hr
  rw [← hPe] at hl ⊢
  rw [← hle] at hlen
  rw [← he,← hle]
  obtain ⟨X,hX⟩:∃ X,X = l.map eT:=⟨_,rfl⟩
  have hXl:X.length = l.length:=by rw [hX,List.length_map]
  rw [← hX] at hr
  obtain ⟨R,hR⟩:∃ R,R = DV.tup [.vec 0 2 ((if e ≠ 0∨n < 0 then [] else rrGo key n l []).map eT),.int .i64 (if e ≠ 0 then e else if n < 0 then 4 else 0)]:=⟨_,rfl⟩
  rw [← hR]
  refine (OkE.thaw (c:=0) (R:=fun D=>D = R) ?_ (by simp [lk,low_int,low_bool,low_str,low_nils,low_nilp,low_nilf,low_nili,low_undef,low_skip,low_vec,low_agg,low_tup,low_fn,low_vptr,low_iface,low_ptr,low_sl,low_mp,low_it,low_yld,low_emp,lowEnv,lowObs,lowOb,tmpObs,isArr,hl]) σ).ok fun o σ' ⟨e,D',e1,e2⟩=>by subst e2; exact ⟨e1,e⟩
  refine OkE.of_body layOk Try.func13 rfl (by decide) (by simp [Try.ntmps13]) fun C hP hn hσ hfix hdd=>?_
  rw [show Try.f13.ntmps = 54 from rfl] at hn
  have hL:LayOk C.P L:=hP ▸ layOk
  have hm:C.P.follows .mixedOrders = true:=hP ▸ mixed
  by_cases hne:e ≠ 0
  · have d1:(e != 0) = true:=by simpa using hne
    repeat (first|((first|refine sA hL hn rfl ?_|refine sB hL hn rfl ?_);simp only [go_sem,jf,jh,ji,ja,jb,reduceIte,jc,jg,jd,je,reduceCtorEq])|((first|refine sC ?_|refine sH ?_|refine sI ?_|refine sJ ?_);try simp only [jk,jl,jm,jn,if_true,if_false,jb])|refine sD ?_|refine sE ?_|refine sF rfl ?_|refine sG rfl ?_)
    refine sK hP hL hn rfl rfl (hr _) rfl rfl rfl rfl ?_; simp (maxSteps:=2000000) only [go_sem,jf,jh,ji,ja,jb,reduceIte,jc,jg,jd,je,reduceCtorEq]
    repeat (first|((first|refine sA hL hn rfl ?_|refine sB hL hn rfl ?_);simp only [go_sem,jf,jh,ji,ja,jb,reduceIte,jc,jg,jd,je,reduceCtorEq,d1])|((first|refine sC ?_|refine sH ?_|refine sI ?_|refine sJ ?_);try simp only [jk,jl,jm,jn,if_true,if_false,jb])|refine sD ?_|refine sE ?_|refine sF rfl ?_|refine sG rfl ?_)
    refine ⟨_,_,?_,_,(.tup [.nils,.int .i64 e]),_,Ghost.refl _ _,?_,GhostV.refl _ _ _,rfl⟩
    rotate_left
    show resDV L _ [Go.ResultVar.tmp 8,Go.ResultVar.tmp 9] = _
    simp only [resDV,resL,resDV1,go_sem,jf,jh,ji,ja,jb,reduceIte,jc,jg,jd,je,reduceCtorEq]
    exact ⟨_,R,rfl,by rw [hR,if_pos (.inl hne),if_pos hne]; exact .two .nil .int,rfl⟩
  have d1:(e != 0) = false:=by simpa using hne
  by_cases hn0:n < 0
  · have d2:decide (n < 0) = true:=decide_eq_true hn0
    repeat (first|((first|refine sA hL hn rfl ?_|refine sB hL hn rfl ?_);simp only [go_sem,jf,jh,ji,ja,jb,reduceIte,jc,jg,jd,je,reduceCtorEq])|((first|refine sC ?_|refine sH ?_|refine sI ?_|refine sJ ?_);try simp only [jk,jl,jm,jn,if_true,if_false,jb])|refine sD ?_|refine sE ?_|refine sF rfl ?_|refine sG rfl ?_)
    refine sK hP hL hn rfl rfl (hr _) rfl rfl rfl rfl ?_; simp (maxSteps:=2000000) only [go_sem,jf,jh,ji,ja,jb,reduceIte,jc,jg,jd,je,reduceCtorEq]
    repeat (first|((first|refine sA hL hn rfl ?_|refine sB hL hn rfl ?_);simp only [go_sem,jf,jh,ji,ja,jb,reduceIte,jc,jg,jd,je,reduceCtorEq,d1,d2])|((first|refine sC ?_|refine sH ?_|refine sI ?_|refine sJ ?_);try simp only [jk,jl,jm,jn,if_true,if_false,jb])|refine sD ?_|refine sE ?_|refine sF rfl ?_|refine sG rfl ?_)
    refine ⟨_,_,?_,_,(.tup [.nils,.int .i64 4]),_,Ghost.refl _ _,?_,GhostV.refl _ _ _,rfl⟩
    rotate_left
    show resDV L _ [Go.ResultVar.tmp 8,Go.ResultVar.tmp 9] = _
    simp only [resDV,resL,resDV1,go_sem,jf,jh,ji,ja,jb,reduceIte,jc,jg,jd,je,reduceCtorEq]
    exact ⟨_,R,rfl,by rw [hR,if_pos (.inr hn0),if_neg hne,if_pos hn0]; exact .two .nil .int,rfl⟩
  have d2:decide (n < 0) = false:=decide_eq_false hn0
  rw [if_neg (by rintro (h | h); exact hne h; exact hn0 h),if_neg hne,if_neg hn0] at hR
  repeat (first|((first|refine sA hL hn rfl ?_|refine sB hL hn rfl ?_);simp only [go_sem,jf,jh,ji,ja,jb,reduceIte,jc,jg,jd,je,reduceCtorEq])|((first|refine sC ?_|refine sH ?_|refine sI ?_|refine sJ ?_);try simp only [jk,jl,jm,jn,if_true,if_false,jb])|refine sD ?_|refine sE ?_|refine sF rfl ?_|refine sG rfl ?_)
  refine sK hP hL hn rfl rfl (hr _) rfl rfl rfl rfl ?_; simp (maxSteps:=2000000) only [go_sem,jf,jh,ji,ja,jb,reduceIte,jc,jg,jd,je,reduceCtorEq]
  repeat (first|((first|refine sA hL hn rfl ?_|refine sB hL hn rfl ?_);simp only [go_sem,jf,jh,ji,ja,jb,reduceIte,jc,jg,jd,je,reduceCtorEq,d1,d2])|((first|refine sC ?_|refine sH ?_|refine sI ?_|refine sJ ?_);try simp only [jk,jl,jm,jn,if_true,if_false,jb])|refine sD ?_|refine sE ?_|refine sF rfl ?_|refine sG rfl ?_)
  refine SW.ghost (Ghost.newNil 12 27 2 rfl) ?_
  simp only [up,jb,reduceIte,List.length_nil]
  refine SW.lpg (fun x:Nat × List It × List Ob=>⟨[(2,.int .u64 key),(3,.int .i64 n),(10,.vec 0 2 X),(12,.sl 1 x.2.1.length 0 x.2.1.length),(13,.int .i64 x.1)],Ob.arr 24 1 [.agg [P]] :: .arr 27 2 (x.2.1.map eT) :: x.2.2⟩) (fun x=>l.length - x.1) (fun x=>x.1≤l.length∧x.2.1.length≤x.1∧rrGo key n l [] = rrGo key n (l.drop x.1) x.2.1) (0,[],[]) ⟨by simp,by simp,rfl⟩ (.of rfl (by simp [agree,lk])) ?_
  rintro ⟨k,out,T⟩ ⟨hk,hout,hrest⟩
  simp only at hk hout hrest
  have dn:∀ (O:List DV) (T':List Ob),O = out.map eT→rrGo key n l [] = out→∃ d D,Out.ret (.tup [.sl 1 out.length 0 out.length,.int .i64 0]) = .ret d∧Fz (Ob.arr 24 1 [.agg [P]] :: .arr 27 2 O :: T') 0 d D∧D = R:=by
    intro O T' hO h
    refine ⟨_,R,rfl,?_,rfl⟩
    rw [hR,h]
    exact .two (Fz.list eT (low_eT 0) (by rw [hO]; rfl)) .int
  by_cases hlt:k < l.length
  · have e1:decide ((k:Int) < (l.length:Int)) = true:=decide_eq_true (by omega)
    have e2:(0≤(k:Int)∧(k:Int) < (l.length:Int)):=by omega
    obtain ⟨p,hp⟩:∃ p,p = l[k]'hlt:=⟨_,rfl⟩
    rw [List.drop_eq_getElem_cons hlt,← hp] at hrest
    simp only [rrGo] at hrest
    obtain ⟨p1,p2⟩:=p
    have e3:X[k]?.getD .undef = .agg [.int .u64 p1,.int .u64 p2]:=by rw [hX]; simp [hlt,eT,← hp]
    have w2:IntKind.i64.wrap ((k:Int)+1) = ((k+1:Nat):Int):=wi (by omega) (by omega)
    obtain ⟨O,hO⟩:∃ O,O = out.map eT:=⟨_,rfl⟩
    have hOl:O.length = out.length:=by rw [hO,List.length_map]
    have hcap:((out.length+1) * 16≤140737488355328) = True:=eq_true (by omega)
    have gT:∀ x:Ob,(T ++ [x])[T.length]? = some x:=fun x=>by simp
    simp only
    rw [← hO]
    by_cases hln:(out.length:Int) < n
    · rw [if_pos hln] at hrest
      have d3:decide ((out.length:Int) < n) = true:=decide_eq_true hln
      by_cases hge:p1 ≥ key
      · rw [if_pos hge] at hrest
        have d4:decide (p1 ≥ key) = true:=decide_eq_true hge
        repeat (first|((first|refine sA hL hn rfl ?_|refine sB hL hn rfl ?_);simp only [go_sem,jf,jh,ji,ja,jb,reduceIte,jc,jg,jd,je,reduceCtorEq,e1,hXl,d3,e2,e3,d4,w2,appDV,hOl,hcap,gT])|((first|refine sC ?_|refine sH ?_|refine sI ?_|refine sJ ?_);try simp only [jk,jl,jm,jn,if_true,if_false,jb])|refine sD ?_|refine sE ?_|refine sF rfl ?_|refine sG rfl ?_)
        exact Lp.nextg (k+1,out ++ [(p1,p2)],T ++ [.arr 27 2 [.agg [.int .u64 p1,.int .u64 p2]]]) ⟨by show k+1≤_; omega,by show (out ++ [(p1,p2)]).length≤k+1; simp; omega,hrest⟩ (by show l.length - (k+1) < _; omega) (.of (by simp [hO,eT]) (by simp [agree,lk]))
      · rw [if_neg hge] at hrest
        have d4:decide (p1 ≥ key) = false:=decide_eq_false hge
        repeat (first|((first|refine sA hL hn rfl ?_|refine sB hL hn rfl ?_);simp only [go_sem,jf,jh,ji,ja,jb,reduceIte,jc,jg,jd,je,reduceCtorEq,e1,hXl,d3,e2,e3,d4,w2])|((first|refine sC ?_|refine sH ?_|refine sI ?_|refine sJ ?_);try simp only [jk,jl,jm,jn,if_true,if_false,jb])|refine sD ?_|refine sE ?_|refine sF rfl ?_|refine sG rfl ?_)
        exact Lp.nextg (k+1,out,T) ⟨by show k+1≤_; omega,by show out.length≤k+1; omega,hrest⟩ (by show l.length - (k+1) < _; omega) (.of (by simp [hO]) (by simp [agree,lk]))
    · rw [if_neg hln] at hrest
      have d3:decide ((out.length:Int) < n) = false:=decide_eq_false hln
      repeat (first|((first|refine sA hL hn rfl ?_|refine sB hL hn rfl ?_);simp only [go_sem,jf,jh,ji,ja,jb,reduceIte,jc,jg,jd,je,reduceCtorEq,e1,hXl,d3])|((first|refine sC ?_|refine sH ?_|refine sI ?_|refine sJ ?_);try simp only [jk,jl,jm,jn,if_true,if_false,jb])|refine sD ?_|refine sE ?_|refine sF rfl ?_|refine sG rfl ?_)
      refine ⟨_,_,?_,_,(.tup [.sl 1 out.length 0 out.length,.int .i64 0]),_,Ghost.refl _ _,?_,GhostV.refl _ _ _,rfl⟩
      rotate_left
      show resDV L _ [Go.ResultVar.tmp 8,Go.ResultVar.tmp 9] = _
      simp only [resDV,resL,resDV1,go_sem,jf,jh,ji,ja,jb,reduceIte,jc,jg,jd,je,reduceCtorEq]
      exact dn O T hO hrest
  · have e1:decide ((k:Int) < (l.length:Int)) = false:=decide_eq_false (by omega)
    rw [List.drop_of_length_le (by omega)] at hrest
    simp only [rrGo] at hrest
    simp only
    obtain ⟨O,hO⟩:∃ O,O = out.map eT:=⟨_,rfl⟩
    rw [← hO]
    repeat (first|((first|refine sA hL hn rfl ?_|refine sB hL hn rfl ?_);simp only [go_sem,jf,jh,ji,ja,jb,reduceIte,jc,jg,jd,je,reduceCtorEq,e1,hXl])|((first|refine sC ?_|refine sH ?_|refine sI ?_|refine sJ ?_);try simp only [jk,jl,jm,jn,if_true,if_false,jb])|refine sD ?_|refine sE ?_|refine sF rfl ?_|refine sG rfl ?_)
    refine ⟨_,_,?_,_,(.tup [.sl 1 out.length 0 out.length,.int .i64 0]),_,Ghost.refl _ _,?_,GhostV.refl _ _ _,rfl⟩
    rotate_left
    show resDV L _ [Go.ResultVar.tmp 8,Go.ResultVar.tmp 9] = _
    simp only [resDV,resL,resDV1,go_sem,jf,jh,ji,ja,jb,reduceIte,jc,jg,jd,je,reduceCtorEq]
    exact dn O T hO hrest
end Go.VL
end
section
set_option maxRecDepth 10000
set_option maxHeartbeats 4000000
namespace Go.VL
open Go Go.Proofs
open Nat renaming reduceAdd → ja, reduceEqDiff → jb, reduceSub → jc, reduceMul → jd, reduceLeDiff → je, reduceBEq → jf, reduceLT → jg
open Int renaming reduceLT → jh, reduceLE → ji
open Go.VL renaming thenK → jk, blockK → jl, loopK → jm, loopG → jn
def di18_6:List DI:=[⟨[0],[],false,[0],some 17,[]⟩,⟨[5],[],false,[0],some 18,[]⟩,⟨[17,18],[0,1],false,[0],some 19,[0,1]⟩,⟨[19],[0,1,2],false,[0],some 20,[2]⟩,⟨[1],[],false,[0],some 21,[]⟩,⟨[5],[],false,[0],some 22,[]⟩,⟨[21,22],[4,5],false,[0],some 23,[4,5]⟩,⟨[23],[4,5,6],false,[0],some 24,[6]⟩,⟨[20,24],rg 0 8,false,[0],some 25,[3,7]⟩]
def di19_6:List DI:=[⟨[0],[],false,[0],some 17,[]⟩,⟨[5],[],false,[0],some 18,[]⟩,⟨[17,18],[0,1],false,[0],some 19,[0,1]⟩,⟨[19],[0,1,2],false,[0],some 20,[2]⟩,⟨[1],[],false,[0],some 21,[]⟩,⟨[5],[],false,[0],some 22,[]⟩,⟨[21,22],[4,5],false,[0],some 23,[4,5]⟩,⟨[23],[4,5,6],false,[0],some 24,[6]⟩,⟨[20,24],rg 0 8,false,[0],some 25,[3,7]⟩]
def di9_6:List DI:=[⟨[0],[],false,[0],some 17,[]⟩,⟨[5],[],false,[0],some 18,[]⟩,⟨[17,18],[0,1],false,[0],some 19,[0,1]⟩,⟨[19],[0,1,2],false,[0],some 20,[2]⟩,⟨[20],rg 0 4,false,[0],some 21,[3]⟩,⟨[1],[],false,[0],some 22,[]⟩,⟨[5],[],false,[0],some 23,[]⟩,⟨[22,23],[5,6],false,[0],some 24,[5,6]⟩,⟨[24],[5,6,7],false,[0],some 25,[7]⟩,⟨[25],rg 5 4,false,[0],some 26,[8]⟩,⟨[21,26],rg 0 10,false,[0],some 27,[4,9]⟩]
theorem copyBytes_ok (c:Nat) (bs:List UInt8) (hl:bs.length≤134217728) (σ:List Ob):Ok Try.prog 34 [.vec c 1 (bs.map eB)] σ (.ret (.vec 0 1 (bs.map eB))) σ:=by
  by_cases h0:bs.length = 0
  · obtain rfl:=List.eq_nil_of_length_eq_zero h0
    refine Ok.thaw (c:=0) (d:=.sl 0 0 0 0) (O:=[.arr 5 1 []]) ?_ (Fz.list (l:=[]) eB (low_eB 0) rfl) (by simp [lk,low_int,low_bool,low_str,low_nils,low_nilp,low_nilf,low_nili,low_undef,low_skip,low_vec,low_agg,low_tup,low_fn,low_vptr,low_iface,low_ptr,low_sl,low_mp,low_it,low_yld,low_emp,lowEnv,lowObs,lowOb,tmpObs,isArr]) σ
    refine Ok.of_body layOk Try.func34 rfl (by decide) (by simp [Try.ntmps34]) fun C hP hn hσ hfix hdd=>?_
    rw [show Try.f34.ntmps = 7 from rfl] at hn
    have hL:LayOk C.P L:=hP ▸ layOk
    have hm:C.P.follows .mixedOrders = true:=hP ▸ mixed
    repeat (first|((first|refine sA hL hn rfl ?_|refine sB hL hn rfl ?_);simp only [go_sem,jf,jh,ji,ja,jb,reduceIte,jc,jg,jd,je,reduceCtorEq,appDV])|((first|refine sC ?_|refine sH ?_|refine sI ?_|refine sJ ?_);try simp only [jk,jl,jm,jn,if_true,if_false,jb])|refine sD ?_|refine sE ?_|refine sF rfl ?_|refine sG rfl ?_)
    exact ⟨_,_,_,Ghost.refl _ _,rfl,GhostV.refl _ _ _,rfl⟩
  · have a1:=all_eB bs
    obtain ⟨X,hX⟩:∃ X,X = bs.map eB:=⟨_,rfl⟩
    have hXl:X.length = bs.length:=by rw [hX,List.length_map]
    have hlX:=low_bytes 0 c bs
    have hz:Fz [Ob.arr 5 1 X] 0 (.sl 0 bs.length 0 bs.length) (.vec 0 1 X):=by rw [hX]; exact Fz.list eB (low_eB 0) rfl
    simp only [DV.cells] at a1
    rw [← hX] at hlX a1 ⊢
    refine Ok.thaw (c:=0) ?_ hz (by simpa using hlX) σ
    have n0:(bs.length = 0) = False:=eq_false h0
    have hcap:(bs.length≤140737488355328) = True:=eq_true (by omega)
    refine Ok.of_body layOk Try.func34 rfl (by decide) (by simp [Try.ntmps34]) fun C hP hn hσ hfix hdd=>?_
    rw [show Try.f34.ntmps = 7 from rfl] at hn
    have hL:LayOk C.P L:=hP ▸ layOk
    have hm:C.P.follows .mixedOrders = true:=hP ▸ mixed
    repeat (first|((first|refine sA hL hn rfl ?_|refine sB hL hn rfl ?_);simp only [go_sem,jf,jh,ji,ja,jb,reduceIte,jc,jg,jd,je,reduceCtorEq,appDV,hXl,a1,n0,hcap])|((first|refine sC ?_|refine sH ?_|refine sI ?_|refine sJ ?_);try simp only [jk,jl,jm,jn,if_true,if_false,jb])|refine sD ?_|refine sE ?_|refine sF rfl ?_|refine sG rfl ?_)
    exact ⟨_,_,_,Ghost.refl _ _,rfl,GhostV.refl _ _ _,rfl⟩
def own0 (p:Pg):Pg:=(0,p.2)
theorem copyList_ok (c:Nat) (ps:List Pg) (hps:ps.length≤1048576) (hb:∀ p ∈ ps,p.2.length≤134217728) (σ:List Ob):Ok Try.prog 22 [pgsD c ps] σ (.ret (pgsD 0 (ps.map own0))) σ:=by
  have hl:=low_pgs 0 c ps
  unfold pgsD at hl ⊢
  obtain ⟨X,hX⟩:∃ X,X = ps.map ePg:=⟨_,rfl⟩
  have hXl:X.length = ps.length:=by rw [hX,List.length_map]
  rw [← hX] at hl ⊢
  obtain ⟨R,hR⟩:∃ R,R = DV.vec 0 1 ((ps.map own0).map ePg):=⟨_,rfl⟩
  rw [← hR]
  refine (OkE.thaw (c:=0) (R:=fun D=>D = R) ?_ (by simpa using hl) σ).ok fun o σ' ⟨e,D',e1,e2⟩=>by subst e2; exact ⟨e1,e⟩
  obtain ⟨P,hPP⟩:∃ P:Nat→List DV,P = fun k=>((ps.take k).map own0).map ePg:=⟨_,rfl⟩
  have hPl:∀ k,k≤ps.length→(P k).length = k:=fun k hk=>by rw [hPP]; simp [Nat.min_eq_left hk]
  refine OkE.of_body layOk Try.func22 rfl (by decide) (by simp [Try.ntmps22]) fun C hP hn hσ hfix hdd=>?_
  rw [show Try.f22.ntmps = 20 from rfl] at hn
  have hL:LayOk C.P L:=hP ▸ layOk
  have hm:C.P.follows .mixedOrders = true:=hP ▸ mixed
  repeat (first|((first|refine sA hL hn rfl ?_|refine sB hL hn rfl ?_);simp only [go_sem,jf,jh,ji,ja,jb,reduceIte,jc,jg,jd,je,reduceCtorEq])|((first|refine sC ?_|refine sH ?_|refine sI ?_|refine sJ ?_);try simp only [jk,jl,jm,jn,if_true,if_false,jb])|refine sD ?_|refine sE ?_|refine sF rfl ?_|refine sG rfl ?_)
  refine SW.ghost (Ghost.newNil 3 67 1 rfl) ?_
  simp only [up,jb,reduceIte,List.length_nil,List.nil_append]
  refine SW.lpg (fun x:Nat × List Ob=>⟨[(0,.vec c 1 X),(3,.sl 0 x.1 0 x.1),(4,.int .i64 x.1)],Ob.arr 67 1 (P x.1) :: x.2⟩) (fun x=>ps.length - x.1) (fun x=>x.1≤ps.length) (0,[]) (by simp) (.of (by rw [hPP]; rfl) (by simp [agree,lk])) ?_
  rintro ⟨k,T⟩ hk
  simp only at hk
  by_cases hlt:k < ps.length
  · have e1:decide ((k:Int) < (ps.length:Int)) = true:=decide_eq_true (by omega)
    have e2:(0≤(k:Int)∧(k:Int) < (ps.length:Int)):=by omega
    obtain ⟨p,hp⟩:∃ p,p = ps[k]'hlt:=⟨_,rfl⟩
    have hpb:=hb p (by rw [hp]; exact List.getElem_mem hlt)
    have hcb:=copyBytes_ok p.1 p.2 hpb
    obtain ⟨B,hB⟩:∃ B,B = p.2.map eB:=⟨_,rfl⟩
    rw [← hB] at hcb
    have e3:X[k]?.getD .undef = .vec p.1 1 B:=by rw [hX,hB]; simp [hlt,ePg,← hp]
    have w2:IntKind.i64.wrap ((k:Int)+1) = ((k+1:Nat):Int):=wi (by omega) (by omega)
    have hPs:P k ++ [.vec 0 1 B] = P (k+1):=by
      rw [hPP]; dsimp only
      rw [← List.take_append_getElem hlt,List.map_append,List.map_append,← hp,hB]; rfl
    have l1:=hPl k hk
    have hcap:((k+1) * 24≤140737488355328) = True:=eq_true (by omega)
    have gT:∀ x:Ob,(T ++ [x])[T.length]? = some x:=fun x=>by simp
    simp only
    repeat (first|((first|refine sA hL hn rfl ?_|refine sB hL hn rfl ?_);simp only [go_sem,jf,jh,ji,ja,jb,reduceIte,jc,jg,jd,je,reduceCtorEq,e1,hXl,e2,e3])|((first|refine sC ?_|refine sH ?_|refine sI ?_|refine sJ ?_);try simp only [jk,jl,jm,jn,if_true,if_false,jb])|refine sD ?_|refine sE ?_|refine sF rfl ?_|refine sG rfl ?_)
    refine sK hP hL hn rfl rfl (hcb _) rfl rfl rfl rfl ?_; simp (maxSteps:=2000000) only [go_sem,jf,jh,ji,ja,jb,reduceIte,jc,jg,jd,je,reduceCtorEq,appDV,l1,hcap,gT,hPs,w2]
    repeat (first|((first|refine sA hL hn rfl ?_|refine sB hL hn rfl ?_);simp only [go_sem,jf,jh,ji,ja,jb,reduceIte,jc,jg,jd,je,reduceCtorEq,appDV,l1,hcap,gT,hPs,w2])|((first|refine sC ?_|refine sH ?_|refine sI ?_|refine sJ ?_);try simp only [jk,jl,jm,jn,if_true,if_false,jb])|refine sD ?_|refine sE ?_|refine sF rfl ?_|refine sG rfl ?_)
    exact Lp.nextg (k+1,T ++ [.arr 67 1 [.vec 0 1 B]]) (by show k+1≤_; omega) (by show ps.length - (k+1) < _; omega) (.of (by simp) (by simp [agree,lk]))
  · have e1:decide ((k:Int) < (ps.length:Int)) = false:=decide_eq_false (by omega)
    obtain rfl:k = ps.length:=by omega
    simp only
    repeat (first|((first|refine sA hL hn rfl ?_|refine sB hL hn rfl ?_);simp only [go_sem,jf,jh,ji,ja,jb,reduceIte,jc,jg,jd,je,reduceCtorEq,e1,hXl])|((first|refine sC ?_|refine sH ?_|refine sI ?_|refine sJ ?_);try simp only [jk,jl,jm,jn,if_true,if_false,jb])|refine sD ?_|refine sE ?_|refine sF rfl ?_|refine sG rfl ?_)
    refine ⟨_,_,?_,_,(.sl 0 ps.length 0 ps.length),_,Ghost.refl _ _,?_,GhostV.refl _ _ _,rfl⟩
    rotate_left
    show resDV L _ [Go.ResultVar.tmp 2] = _
    simp only [resDV,resL,resDV1,go_sem,jf,jh,ji,ja,jb,reduceIte,jc,jg,jd,je,reduceCtorEq]
    refine ⟨_,R,rfl,?_,rfl⟩
    rw [hR]
    have:=Fz.list (O:=Ob.arr 67 1 (P ps.length) :: T) (c:=0) (id:=0) (t:=67) (k:=1) (l:=ps.map own0) ePg (fun p=>low_bytes 0 p.1 p.2) (by rw [hPP]; simp)
    rw [List.length_map] at this
    exact this
theorem of_ok (c:Nat) (ps:List Pg) (hps:ps.length≤1048576) (hb:∀ p ∈ ps,p.2.length≤134217728) (σ:List Ob):Ok Try.prog 6 [.agg [pgsD c ps]] σ (.ret (.agg [pgsD 0 (ps.map own0)])) σ:=by
  have hc:=copyList_ok c ps hps hb
  have hl:=low_pgs 0 c ps
  have hl2:=low_pgs 0 0 (ps.map own0)
  obtain ⟨A,hA⟩:∃ A,A = ps.map ePg:=⟨_,rfl⟩
  obtain ⟨B,hB⟩:∃ B,B = (ps.map own0).map ePg:=⟨_,rfl⟩
  unfold pgsD at hc hl hl2 ⊢
  rw [← hA,← hB] at hc
  rw [← hA] at hl ⊢
  rw [← hB] at hl2 ⊢
  refine Ok.thaw (c:=0) (O:=[.arr 24 1 [.agg [.vec c 1 A]],.arr 29 1 [.agg [.vec 0 1 B]]]) (d:=.agg [.vec 0 1 B]) ?_ (.low (by rw [low_agg]; simpa using hl2)) (by rw [show (∀ x ∈ [DV.agg [.vec c 1 A]],Low 0 x) ↔ Low 0 (DV.agg [.vec c 1 A]) by simp,low_agg]; simpa using hl) σ
  have hbd:buildDV L 29 [(0,.vec 0 1 B)] = some (.agg [.vec 0 1 B]):=rfl
  refine Ok.of_body layOk Try.func6 rfl (by decide) (by simp [Try.ntmps6]) fun C hP hn hσ hfix hdd=>?_
  rw [show Try.f6.ntmps = 7 from rfl] at hn
  have hL:LayOk C.P L:=hP ▸ layOk
  have hm:C.P.follows .mixedOrders = true:=hP ▸ mixed
  repeat (first|((first|refine sA hL hn rfl ?_|refine sB hL hn rfl ?_);simp only [go_sem,jf,jh,ji,ja,jb,reduceIte,jc,jg,jd,je,reduceCtorEq])|((first|refine sC ?_|refine sH ?_|refine sI ?_|refine sJ ?_);try simp only [jk,jl,jm,jn,if_true,if_false,jb])|refine sD ?_|refine sE ?_|refine sF rfl ?_|refine sG rfl ?_)
  refine sK hP hL hn rfl rfl (hc _) rfl rfl rfl rfl ?_; simp (maxSteps:=2000000) only [go_sem,jf,jh,ji,ja,jb,reduceIte,jc,jg,jd,je,reduceCtorEq,hbd]
  repeat (first|((first|refine sA hL hn rfl ?_|refine sB hL hn rfl ?_);simp only [go_sem,jf,jh,ji,ja,jb,reduceIte,jc,jg,jd,je,reduceCtorEq,hbd])|((first|refine sC ?_|refine sH ?_|refine sI ?_|refine sJ ?_);try simp only [jk,jl,jm,jn,if_true,if_false,jb])|refine sD ?_|refine sE ?_|refine sF rfl ?_|refine sG rfl ?_)
  refine ⟨_,(.agg [.vec 0 1 B]),_,Ghost.refl _ _,?_,GhostV.refl _ _ _,rfl⟩
  show resDV L _ [Go.ResultVar.cell 2 29] = _
  simp only [resDV,resL,resDV1,go_sem,jf,jh,ji,ja,jb,reduceIte,jc,jg,jd,je,reduceCtorEq]
theorem num_ok (e:Int) (σ:List Ob):Ok Try.prog 17 [.int .i64 e] σ (.ret (.int .i64 e)) σ:=by
  refine Ok.of_body layOk Try.func17 rfl (by decide) (by simp [Try.ntmps17]) fun C hP hn hσ hfix hdd=>?_
  rw [show Try.f17.ntmps = 4 from rfl] at hn
  have hL:LayOk C.P L:=hP ▸ layOk
  have hm:C.P.follows .mixedOrders = true:=hP ▸ mixed
  repeat (first|((first|refine sA hL hn rfl ?_|refine sB hL hn rfl ?_);simp only [go_sem,jf,jh,ji,ja,jb,reduceIte,jc,jg,jd,je,reduceCtorEq])|((first|refine sC ?_|refine sH ?_|refine sI ?_|refine sJ ?_);try simp only [jk,jl,jm,jn,if_true,if_false,jb])|refine sD ?_|refine sE ?_|refine sF rfl ?_|refine sG rfl ?_)
  exact ⟨_,_,_,Ghost.refl _ _,rfl,GhostV.refl _ _ _,rfl⟩
theorem sameItems_ok (c c':Nat) (l:List It) (σ:List Ob):Ok Try.prog 18 [.vec c 2 (l.map eT),.vec c' 2 (l.map eT)] σ (.ret (.bool true)) σ:=by
  obtain ⟨X,hX⟩:∃ X,X = l.map eT:=⟨_,rfl⟩
  have hXl:X.length = l.length:=by rw [hX,List.length_map]
  rw [← hX]
  have d0:(((l.length:Nat):Int) != ((l.length:Nat):Int)) = false:=by simp
  refine Ok.of_body layOk Try.func18 rfl (by decide) (by simp [Try.ntmps18]) fun C hP hn hσ hfix hdd=>?_
  rw [show Try.f18.ntmps = 26 from rfl] at hn
  have hL:LayOk C.P L:=hP ▸ layOk
  have hm:C.P.follows .mixedOrders = true:=hP ▸ mixed
  refine SW.vlen 0 rfl fun hlen=>?_
  rw [hXl] at hlen
  repeat (first|((first|refine sA hL hn rfl ?_|refine sB hL hn rfl ?_);simp only [go_sem,jf,jh,ji,ja,jb,reduceIte,jc,jg,jd,je,reduceCtorEq,hXl,d0])|((first|refine sC ?_|refine sH ?_|refine sI ?_|refine sJ ?_);try simp only [jk,jl,jm,jn,if_true,if_false,jb])|refine sD ?_|refine sE ?_|refine sF rfl ?_|refine sG rfl ?_)
  refine SW.lpg (fun k:Nat=>⟨[(0,.vec c 2 X),(1,.vec c' 2 X),(5,.int .i64 k)],σ⟩) (fun k=>l.length - k) (fun k=>k≤l.length) 0 (by omega) (.of rfl (by simp [agree,lk])) ?_
  intro k hk
  by_cases hlt:k < l.length
  · have e1:decide ((k:Int) < (l.length:Int)) = true:=decide_eq_true (by omega)
    have e2:(0≤(k:Int)∧(k:Int) < (l.length:Int)):=by omega
    obtain ⟨p,hp⟩:∃ p,p = l[k]'hlt:=⟨_,rfl⟩
    obtain ⟨p1,p2⟩:=p
    have e3:X[k]?.getD .undef = .agg [.int .u64 p1,.int .u64 p2]:=by rw [hX]; simp [hlt,eT,← hp]
    have w2:IntKind.i64.wrap ((k:Int)+1) = ((k+1:Nat):Int):=wi (by omega) (by omega)
    have b1:(p1 == p1) = true:=by simp
    have b2:(p2 == p2) = true:=by simp
    repeat (first|((first|refine sA hL hn rfl ?_|refine sB hL hn rfl ?_);simp only [go_sem,jf,jh,ji,ja,jb,reduceIte,jc,jg,jd,je,reduceCtorEq,e1,hXl])|((first|refine sC ?_|refine sH ?_|refine sI ?_|refine sJ ?_);try simp only [jk,jl,jm,jn,if_true,if_false,jb])|refine sD ?_|refine sE ?_|refine sF rfl ?_|refine sG rfl ?_)
    refine sM hL hm hn di18_6 [σ] rfl rfl rfl ?_
    unfold di18_6
    repeat (rw [dgo_cons]; simp (maxSteps:=2000000) only [go_sem,jf,jh,ji,ja,jb,reduceIte,jc,jg,jd,je,reduceCtorEq,hXl,e2,e3,b1,b2])
    try rw [dgo_nil]
    try simp only [go_sem,jf,jh,ji,ja,jb,reduceIte,jc,jg,jd,je,reduceCtorEq,hXl,e2,e3,b1,b2]
    repeat (first|((first|refine sA hL hn rfl ?_|refine sB hL hn rfl ?_);simp only [go_sem,jf,jh,ji,ja,jb,reduceIte,jc,jg,jd,je,reduceCtorEq,w2])|((first|refine sC ?_|refine sH ?_|refine sI ?_|refine sJ ?_);try simp only [jk,jl,jm,jn,if_true,if_false,jb])|refine sD ?_|refine sE ?_|refine sF rfl ?_|refine sG rfl ?_)
    exact Lp.nextg (k+1) (by omega) (by omega) (.of rfl (by simp [agree,lk]))
  · have e1:decide ((k:Int) < (l.length:Int)) = false:=decide_eq_false (by omega)
    repeat (first|((first|refine sA hL hn rfl ?_|refine sB hL hn rfl ?_);simp only [go_sem,jf,jh,ji,ja,jb,reduceIte,jc,jg,jd,je,reduceCtorEq,e1,hXl])|((first|refine sC ?_|refine sH ?_|refine sI ?_|refine sJ ?_);try simp only [jk,jl,jm,jn,if_true,if_false,jb])|refine sD ?_|refine sE ?_|refine sF rfl ?_|refine sG rfl ?_)
    exact ⟨_,_,_,Ghost.refl _ _,rfl,GhostV.refl _ _ _,rfl⟩
theorem sameInts_ok (c c':Nat) (l:List Int) (σ:List Ob):Ok Try.prog 19 [.vec c 1 (l.map eI),.vec c' 1 (l.map eI)] σ (.ret (.bool true)) σ:=by
  obtain ⟨X,hX⟩:∃ X,X = l.map eI:=⟨_,rfl⟩
  have hXl:X.length = l.length:=by rw [hX,List.length_map]
  rw [← hX]
  have d0:(((l.length:Nat):Int) != ((l.length:Nat):Int)) = false:=by simp
  refine Ok.of_body layOk Try.func19 rfl (by decide) (by simp [Try.ntmps19]) fun C hP hn hσ hfix hdd=>?_
  rw [show Try.f19.ntmps = 26 from rfl] at hn
  have hL:LayOk C.P L:=hP ▸ layOk
  have hm:C.P.follows .mixedOrders = true:=hP ▸ mixed
  refine SW.vlen 0 rfl fun hlen=>?_
  rw [hXl] at hlen
  repeat (first|((first|refine sA hL hn rfl ?_|refine sB hL hn rfl ?_);simp only [go_sem,jf,jh,ji,ja,jb,reduceIte,jc,jg,jd,je,reduceCtorEq,hXl,d0])|((first|refine sC ?_|refine sH ?_|refine sI ?_|refine sJ ?_);try simp only [jk,jl,jm,jn,if_true,if_false,jb])|refine sD ?_|refine sE ?_|refine sF rfl ?_|refine sG rfl ?_)
  refine SW.lpg (fun k:Nat=>⟨[(0,.vec c 1 X),(1,.vec c' 1 X),(5,.int .i64 k)],σ⟩) (fun k=>l.length - k) (fun k=>k≤l.length) 0 (by omega) (.of rfl (by simp [agree,lk])) ?_
  intro k hk
  by_cases hlt:k < l.length
  · have e1:decide ((k:Int) < (l.length:Int)) = true:=decide_eq_true (by omega)
    have e2:(0≤(k:Int)∧(k:Int) < (l.length:Int)):=by omega
    obtain ⟨p,hp⟩:∃ p,p = l[k]'hlt:=⟨_,rfl⟩
    have e3:X[k]?.getD .undef = .int .i64 p:=by rw [hX]; simp [hlt,eI,← hp]
    have w2:IntKind.i64.wrap ((k:Int)+1) = ((k+1:Nat):Int):=wi (by omega) (by omega)
    have b1:(p != p) = false:=by simp
    repeat (first|((first|refine sA hL hn rfl ?_|refine sB hL hn rfl ?_);simp only [go_sem,jf,jh,ji,ja,jb,reduceIte,jc,jg,jd,je,reduceCtorEq,e1,hXl])|((first|refine sC ?_|refine sH ?_|refine sI ?_|refine sJ ?_);try simp only [jk,jl,jm,jn,if_true,if_false,jb])|refine sD ?_|refine sE ?_|refine sF rfl ?_|refine sG rfl ?_)
    refine sM hL hm hn di19_6 [σ] rfl rfl rfl ?_
    unfold di19_6
    repeat (rw [dgo_cons]; simp (maxSteps:=2000000) only [go_sem,jf,jh,ji,ja,jb,reduceIte,jc,jg,jd,je,reduceCtorEq,hXl,e2,e3,b1])
    try rw [dgo_nil]
    try simp only [go_sem,jf,jh,ji,ja,jb,reduceIte,jc,jg,jd,je,reduceCtorEq,hXl,e2,e3,b1]
    repeat (first|((first|refine sA hL hn rfl ?_|refine sB hL hn rfl ?_);simp only [go_sem,jf,jh,ji,ja,jb,reduceIte,jc,jg,jd,je,reduceCtorEq,w2])|((first|refine sC ?_|refine sH ?_|refine sI ?_|refine sJ ?_);try simp only [jk,jl,jm,jn,if_true,if_false,jb])|refine sD ?_|refine sE ?_|refine sF rfl ?_|refine sG rfl ?_)
    exact Lp.nextg (k+1) (by omega) (by omega) (.of rfl (by simp [agree,lk]))
  · have e1:decide ((k:Int) < (l.length:Int)) = false:=decide_eq_false (by omega)
    repeat (first|((first|refine sA hL hn rfl ?_|refine sB hL hn rfl ?_);simp only [go_sem,jf,jh,ji,ja,jb,reduceIte,jc,jg,jd,je,reduceCtorEq,e1,hXl])|((first|refine sC ?_|refine sH ?_|refine sI ?_|refine sJ ?_);try simp only [jk,jl,jm,jn,if_true,if_false,jb])|refine sD ?_|refine sE ?_|refine sF rfl ?_|refine sG rfl ?_)
    exact ⟨_,_,_,Ghost.refl _ _,rfl,GhostV.refl _ _ _,rfl⟩
theorem sameList_ok (c c':Nat) (ps qs:List Pg) (h:ps.map (·.2) = qs.map (·.2)) (σ:List Ob):Ok Try.prog 9 [pgsD c ps,pgsD c' qs] σ (.ret (.bool true)) σ:=by
  have hlen:qs.length = ps.length:=by have:=congrArg List.length h; simpa using this.symm
  unfold pgsD
  obtain ⟨X,hX⟩:∃ X,X = ps.map ePg:=⟨_,rfl⟩
  have hXl:X.length = ps.length:=by rw [hX,List.length_map]
  obtain ⟨Y,hY⟩:∃ Y,Y = qs.map ePg:=⟨_,rfl⟩
  have hYl:Y.length = ps.length:=by rw [hY,List.length_map,hlen]
  rw [← hX,← hY]
  have d0:(((ps.length:Nat):Int) != ((ps.length:Nat):Int)) = false:=by simp
  have ho:isOct L 5 = true:=rfl
  refine Ok.of_body layOk Try.func9 rfl (by decide) (by simp [Try.ntmps9]) fun C hP hn hσ hfix hdd=>?_
  rw [show Try.f9.ntmps = 28 from rfl] at hn
  have hL:LayOk C.P L:=hP ▸ layOk
  have hm:C.P.follows .mixedOrders = true:=hP ▸ mixed
  refine SW.vlen 0 rfl fun hlen0=>?_
  rw [hXl] at hlen0
  repeat (first|((first|refine sA hL hn rfl ?_|refine sB hL hn rfl ?_);simp only [go_sem,jf,jh,ji,ja,jb,reduceIte,jc,jg,jd,je,reduceCtorEq,hXl,hYl,d0])|((first|refine sC ?_|refine sH ?_|refine sI ?_|refine sJ ?_);try simp only [jk,jl,jm,jn,if_true,if_false,jb])|refine sD ?_|refine sE ?_|refine sF rfl ?_|refine sG rfl ?_)
  refine SW.lpg (fun k:Nat=>⟨[(0,.vec c 1 X),(1,.vec c' 1 Y),(5,.int .i64 k)],σ⟩) (fun k=>ps.length - k) (fun k=>k≤ps.length) 0 (by omega) (.of rfl (by simp [agree,lk])) ?_
  intro k hk
  by_cases hlt:k < ps.length
  · have e1:decide ((k:Int) < (ps.length:Int)) = true:=decide_eq_true (by omega)
    have e2:(0≤(k:Int)∧(k:Int) < (ps.length:Int)):=by omega
    obtain ⟨p,hp⟩:∃ p,ps[k]? = some p:=⟨_,List.getElem?_eq_getElem hlt⟩
    obtain ⟨q,hq⟩:∃ q,qs[k]? = some q:=⟨_,List.getElem?_eq_getElem (by omega)⟩
    have hpq:p.2 = q.2:=by
      have:=congrArg (·[k]?) h
      simpa [hp,hq] using this
    obtain ⟨B,hB⟩:∃ B,B = p.2.map eB:=⟨_,rfl⟩
    have e3:X[k]?.getD .undef = .vec p.1 1 B:=by rw [hX,hB,List.getElem?_map,hp]; rfl
    have e4:Y[k]?.getD .undef = .vec q.1 1 B:=by rw [hY,hB,List.getElem?_map,hq,hpq]; rfl
    have oB:octs B = some p.2:=by rw [hB]; exact octs_eB p.2
    have heq:((strOf p.2).toList == (strOf p.2).toList) = true:=by simp
    have w2:IntKind.i64.wrap ((k:Int)+1) = ((k+1:Nat):Int):=wi (by omega) (by omega)
    repeat (first|((first|refine sA hL hn rfl ?_|refine sB hL hn rfl ?_);simp only [go_sem,jf,jh,ji,ja,jb,reduceIte,jc,jg,jd,je,reduceCtorEq,e1,hXl])|((first|refine sC ?_|refine sH ?_|refine sI ?_|refine sJ ?_);try simp only [jk,jl,jm,jn,if_true,if_false,jb])|refine sD ?_|refine sE ?_|refine sF rfl ?_|refine sG rfl ?_)
    refine sM hL hm hn di9_6 [σ] rfl rfl rfl ?_
    unfold di9_6
    repeat (rw [dgo_cons]; simp (maxSteps:=2000000) only [go_sem,jf,jh,ji,ja,jb,reduceIte,jc,jg,jd,je,reduceCtorEq,hXl,hYl,e2,e3,e4,oB,ho,binStr,heq])
    try rw [dgo_nil]
    try simp only [go_sem,jf,jh,ji,ja,jb,reduceIte,jc,jg,jd,je,reduceCtorEq,hXl,hYl,e2,e3,e4,oB,ho,binStr,heq]
    repeat (first|((first|refine sA hL hn rfl ?_|refine sB hL hn rfl ?_);simp only [go_sem,jf,jh,ji,ja,jb,reduceIte,jc,jg,jd,je,reduceCtorEq,w2])|((first|refine sC ?_|refine sH ?_|refine sI ?_|refine sJ ?_);try simp only [jk,jl,jm,jn,if_true,if_false,jb])|refine sD ?_|refine sE ?_|refine sF rfl ?_|refine sG rfl ?_)
    exact Lp.nextg (k+1) (by omega) (by omega) (.of rfl (by simp [agree,lk]))
  · have e1:decide ((k:Int) < (ps.length:Int)) = false:=decide_eq_false (by omega)
    repeat (first|((first|refine sA hL hn rfl ?_|refine sB hL hn rfl ?_);simp only [go_sem,jf,jh,ji,ja,jb,reduceIte,jc,jg,jd,je,reduceCtorEq,e1,hXl])|((first|refine sC ?_|refine sH ?_|refine sI ?_|refine sJ ?_);try simp only [jk,jl,jm,jn,if_true,if_false,jb])|refine sD ?_|refine sE ?_|refine sF rfl ?_|refine sG rfl ?_)
    exact ⟨_,_,_,Ghost.refl _ _,rfl,GhostV.refl _ _ _,rfl⟩
end Go.VL
end
section
set_option maxRecDepth 10000
set_option maxHeartbeats 2000000
namespace Go.VL
open Go Go.Proofs
open Nat renaming reduceAdd → ja, reduceEqDiff → jb, reduceSub → jc, reduceMul → jd, reduceLeDiff → je, reduceBEq → jf, reduceLT → jg
open Int renaming reduceLT → jh, reduceLE → ji
open Go.VL renaming thenK → jk, blockK → jl, loopK → jm, loopG → jn
abbrev Rises (l:List It):Prop:=l.Pairwise fun a b=>a.1 < b.1
def geB (lo:Option Int) (k:Int):Prop:=match lo with
  | none=>True
  | some l=>l≤k
def ltB (hi:Option Int) (k:Int):Prop:=match hi with
  | none=>True
  | some h=>k < h
theorem inB_iff (lo hi:Option Int) (x:It):inB lo hi x = true ↔ geB lo x.1∧ltB hi x.1:=by
  unfold inB geB ltB
  cases lo <;> cases hi <;> simp
theorem chk1_rises (hk:Bool):∀ (l:List It) (p:Option Int),chk1 hk p l = true→Rises l∧∀ y,p = some y→∀ x ∈ l,y < x.1
  | [],p,_=>⟨.nil,fun _ _ _ hx=>by simp at hx⟩
  | x :: r,p,h=>by
    simp only [chk1] at h
    split at h
    · cases h
    · rename_i hn
      obtain ⟨h1,h2⟩:=chk1_rises hk r _ h
      refine ⟨List.pairwise_cons.2 ⟨fun y hy=>h2 x.1 rfl y hy,h1⟩,fun y hy z hz=>?_⟩
      subst hy
      have hyx:y < x.1:=by
        apply Classical.byContradiction
        intro hc
        apply hn
        left
        simp only [Option.any_some,decide_eq_true_eq]
        omega
      rcases List.mem_cons.1 hz with rfl | hz
      · exact hyx
      · have:=h2 x.1 rfl z hz
        omega
theorem checkF_rises {xs:List It} {ks:List Int} (h:checkF xs ks = 0):Rises xs:=by
  unfold checkF at h
  split at h
  · cases h
  · split at h
    · rename_i h2
      exact (chk1_rises _ _ _ h2.1).1
    · cases h
theorem kids_rises {rec:Int→Option Int→Option Int→WS→WS × Bool} (hr:∀ k lo hi w w',rec k lo hi w = (w',true)→∃ ys,w'.items = w.items ++ ys∧Rises ys∧∀ y ∈ ys,geB lo y.1∧ltB hi y.1) (xs:List It) (lo hi:Option Int) (hx:Rises xs) (hb:∀ x ∈ xs,geB lo x.1∧ltB hi x.1) :
    ∀ (ks:List Int) (i:Nat) (w w':WS),ks.length+i = xs.length+1→kidsF rec xs lo hi ks i w = (w',true) →
    ∃ ys,w'.items = w.items ++ ys∧Rises ys∧∀ y ∈ ys,geB (if 0 < i then (xs[i - 1]?).map (·.1) else lo) y.1∧ltB hi y.1
  | [],i,w,w',_,h=>by
    simp only [kidsF] at h
    cases h
    exact ⟨[],by simp,.nil,fun y hy=>by simp at hy⟩
  | k :: r,i,w,w',hl,h=>by
    simp only [kidsF] at h
    generalize hq:rec k (if 0 < i then (xs[i - 1]?).map (·.1) else lo) (if i < xs.length then (xs[i]?).map (·.1) else hi) w = q at h
    obtain ⟨w1,b⟩:=q
    cases b
    · simp at h
    simp only [if_true] at h
    obtain ⟨ys1,h1,h2,h3⟩:=hr _ _ _ _ _ hq
    obtain ⟨ys2,g1,g2,g3⟩:=kids_rises hr xs lo hi hx hb r (i+1) w1 w' (by simp only [List.length_cons] at hl; omega) h
    simp only [List.length_cons] at hl
    rcases Nat.lt_or_ge i xs.length with hi' | hi'
    · have e1:(if i < xs.length then (xs[i]?).map (·.1) else hi) = some (xs[i]'hi').1:=by rw [if_pos hi',List.getElem?_eq_getElem hi']; rfl
      have e2:(if 0 < i+1 then (xs[i+1 - 1]?).map (·.1) else lo) = some (xs[i]'hi').1:=by rw [if_pos (by omega),Nat.add_sub_cancel,List.getElem?_eq_getElem hi']; rfl
      rw [e1] at h3
      rw [e2] at g3
      have hm:(xs[i]'hi') ∈ xs:=List.getElem_mem hi'
      have hlow:geB (if 0 < i then (xs[i - 1]?).map (·.1) else lo) (xs[i]'hi').1:=by
        by_cases h0:0 < i
        · have hlt:i - 1 < xs.length:=by omega
          rw [if_pos h0,List.getElem?_eq_getElem hlt]
          have:=List.pairwise_iff_getElem.1 hx (i - 1) i hlt hi' (by omega)
          exact Int.le_of_lt this
        · rw [if_neg h0]; exact (hb _ hm).1
      refine ⟨ys1 ++ ys2,by rw [g1,h1,List.append_assoc],List.pairwise_append.2 ⟨h2,g2,fun a ha b hb'=>?_⟩,fun y hy=>?_⟩
      · have q1:=(h3 a ha).2
        have q2:=(g3 b hb').1
        simp only [ltB] at q1
        simp only [geB] at q2
        omega
      · rcases List.mem_append.1 hy with hy | hy
        · obtain ⟨q1,q2⟩:=h3 y hy
          refine ⟨q1,?_⟩
          have q3:=(hb _ hm).2
          simp only [ltB] at q2
          cases hi with
          | none=>trivial
          | some v=>simp only [ltB] at q3 ⊢; omega
        · obtain ⟨q1,q2⟩:=g3 y hy
          refine ⟨?_,q2⟩
          simp only [geB] at q1
          generalize (if 0 < i then (xs[i - 1]?).map (·.1) else lo) = L at hlow
          cases L with
          | none=>trivial
          | some v=>simp only [geB] at hlow ⊢; omega
    · have hr0:r = []:=List.eq_nil_of_length_eq_zero (by omega)
      subst hr0
      simp only [kidsF] at h
      cases h
      rw [if_neg (show ¬ i < xs.length by omega)] at h3
      exact ⟨ys1,h1,h2,h3⟩
theorem node_rises (ps:List Pg):∀ (n:Nat) (at_ level:Int) (lo hi:Option Int) (w w':WS),nodeF ps n at_ level lo hi w = (w',true)→∃ ys,w'.items = w.items ++ ys∧Rises ys∧∀ y ∈ ys,geB lo y.1∧ltB hi y.1
  | 0,_,_,_,_,_,_,h=>by simp [nodeF] at h
  | n+1,at_,level,lo,hi,w,w',h=>by
    simp only [nodeF] at h
    split at h
    · split at h
      · simp at h
      · rename_i he
        split at h
        · simp at h
        · rename_i hall
          have he0:(decodeF ((ps[(at_ - 1).toNat]?).getD (0,[])).2).2 = 0:=by
            apply Classical.byContradiction
            exact he
          have hchk:=decodeF_facts he0
          have hrise:=checkF_rises hchk
          obtain ⟨f1,f2,f3,f4⟩:=checkF_facts hchk
          have hb:∀ x ∈ (decodeF ((ps[(at_ - 1).toNat]?).getD (0,[])).2).1.1,geB lo x.1∧ltB hi x.1:=by
            intro x hx
            have:(decodeF ((ps[(at_ - 1).toNat]?).getD (0,[])).2).1.1.all (inB lo hi) = true:=by simpa using hall
            exact (inB_iff _ _ _).1 (List.all_eq_true.1 this x hx)
          split at h
          · split at h
            · cases h
              exact ⟨_,rfl,hrise,hb⟩
            · simp at h
          · rename_i hk
            obtain ⟨ys,g1,g2,g3⟩:=kids_rises (fun k lo hi w w' h=>node_rises ps n k (level+1) lo hi w w' h) _ lo hi hrise hb _ 0 _ _ (by omega) h
            exact ⟨ys,g1,g2,by simpa using g3⟩
    · simp at h
theorem treeF_rises (ps:List Pg) (root:Int):Rises (treeF ps root).1.items:=by
  unfold treeF
  split
  · exact .nil
  · split
    · exact .nil
    · split
      · rename_i h
        obtain ⟨ys,g1,g2,_⟩:=node_rises ps 16 root 1 none none w0 (nodeF ps 16 root 1 none none w0).1 (by rw [← h])
        simp only
        rw [g1]
        exact g2
      · exact .nil
theorem bsGo_ok (xs:List It) (key:Int) (hx:Rises xs):∀ (n i j:Nat),j - i≤n→i≤j→j≤xs.length→(∀ (k:Nat) (h:k < xs.length),k < i→(xs[k]'h).1 < key)→(∀ (k:Nat) (h:k < xs.length),j≤k→key≤(xs[k]'h).1) →
    bsGo xs key n i j≤xs.length∧(∀ (k:Nat) (h:k < xs.length),k < bsGo xs key n i j→(xs[k]'h).1 < key)∧(∀ (k:Nat) (h:k < xs.length),bsGo xs key n i j≤k→key≤(xs[k]'h).1)
  | 0,i,j,hn,hij,hj,h1,h2=>by
    have:i = j:=by omega
    subst this
    exact ⟨hj,h1,h2⟩
  | n+1,i,j,hn,hij,hj,h1,h2=>by
    simp only [bsGo]
    split
    · rename_i hlt
      have hm:(i+j) / 2 < xs.length:=by omega
      rw [List.getElem?_eq_getElem hm,Option.getD_some]
      split
      · rename_i hc
        have hk:(xs[(i+j) / 2]'hm).1 < key:=by
          unfold cmpK at hc
          split at hc
          · assumption
          · split at hc <;> omega
        refine bsGo_ok xs key hx n _ _ (by omega) (by omega) hj (fun k h hk'=>?_) h2
        rcases Nat.lt_or_ge k ((i+j) / 2) with h3 | h3
        · have:=List.pairwise_iff_getElem.1 hx k ((i+j) / 2) h hm h3
          omega
        · have:k = (i+j) / 2:=by omega
          subst this
          exact hk
      · rename_i hc
        have hk:key≤(xs[(i+j) / 2]'hm).1:=by
          unfold cmpK at hc
          split at hc
          · omega
          · omega
        refine bsGo_ok xs key hx n _ _ (by omega) (by omega) (by omega) h1 (fun k h hk'=>?_)
        rcases Nat.lt_or_ge ((i+j) / 2) k with h3 | h3
        · have:=List.pairwise_iff_getElem.1 hx ((i+j) / 2) k hm h h3
          omega
        · have:k = (i+j) / 2:=by omega
          subst this
          exact hk
    · have:i = j:=by omega
      subst this
      exact ⟨hj,h1,h2⟩
theorem rfGo_skip (key:Int):∀ (l:List It) (q:It × Bool),(∀ x ∈ l,¬ x.1≤key)→rfGo key l q = q
  | [],_,_=>rfl
  | x :: r,q,h=>by
    simp only [rfGo]
    rw [if_neg (h x (by simp))]
    exact rfGo_skip key r q fun y hy=>h y (by simp [hy])
theorem rfGo_append (key:Int):∀ (a b:List It) (q:It × Bool),rfGo key (a ++ b) q = rfGo key b (rfGo key a q)
  | [],_,_=>rfl
  | x :: r,b,q=>by simp only [List.cons_append,rfGo]; exact rfGo_append key r b _
theorem rfGo_take (key:Int) (l:List It) (i:Nat) (hi:i≤l.length) (h1:∀ (k:Nat) (h:k < l.length),k < i→(l[k]'h).1≤key) (h2:∀ (k:Nat) (h:k < l.length),i≤k→¬ (l[k]'h).1≤key) (q:It × Bool) :
    rfGo key l q = if i = 0 then q else ((l[i - 1]?).getD (0,0),true):=by
  have hs:l = l.take i ++ l.drop i:=(List.take_append_drop i l).symm
  have hd:∀ q',rfGo key (l.drop i) q' = q':=fun q'=>rfGo_skip key _ _ fun x hx=>by
    obtain ⟨j,hj,e⟩:=List.getElem_of_mem hx
    rw [List.getElem_drop] at e
    rw [← e]
    exact h2 _ (by simp at hj; omega) (by omega)
  rw [hs,rfGo_append,hd]
  by_cases h0:i = 0
  · subst h0
    simp [rfGo]
  · rw [if_neg h0]
    have hlt:i - 1 < l.length:=by omega
    have ht:l.take i = l.take (i - 1) ++ [l[i - 1]'hlt]:=by
      have:=List.take_append_getElem hlt
      rw [this,show i - 1+1 = i by omega]
    rw [ht,rfGo_append]
    simp only [rfGo]
    rw [if_pos (h1 (i - 1) hlt (by omega)),← ht,← hs,List.getElem?_eq_getElem hlt]
    rfl
theorem floor_agree (ps:List Pg) (root key:Int):floorF ps root key = ((rfGo key (refReadF ps root).1 ((0,0),false)).1,(rfGo key (refReadF ps root).1 ((0,0),false)).2,(refReadF ps root).2.2):=by
  have hx:=treeF_rises ps root
  unfold floorF refReadF
  split
  · rfl
  · simp only
    generalize (treeF ps root).1.items = l at hx
    obtain ⟨b1,b2,b3⟩:=bsGo_ok l key hx l.length 0 l.length (by omega) (by omega) (Nat.le_refl _) (fun k h hk=>by omega) (fun k h hk=>by omega)
    unfold bsF
    simp only
    generalize bsGo l key l.length 0 l.length = i at b1 b2 b3
    by_cases hf:i < l.length∧(l[i]?.getD (0,0)).1 = key
    · obtain ⟨hil,hk⟩:=hf
      rw [List.getElem?_eq_getElem hil,Option.getD_some] at hk
      have hcmp:cmpK (l[i]?.getD (0,0)).1 key = 0:=by
        rw [List.getElem?_eq_getElem hil,Option.getD_some,hk]; simp [cmpK]
      rw [hcmp]
      have hd:(decide (i < l.length) && (0:Int) == 0) = true:=by simp [hil]
      rw [hd]
      simp only [if_true]
      rw [if_neg (by omega),Int.toNat_natCast]
      have hr:=rfGo_take key l (i+1) (by omega) (fun k h hk'=>by
        rcases Nat.lt_or_ge k i with h3 | h3
        · have:=b2 k h h3; omega
        · have:k = i:=by omega
          subst this
          omega) (fun k h hk'=>by
        have:=List.pairwise_iff_getElem.1 hx i k hil h (by omega)
        omega) ((0,0),false)
      rw [hr,if_neg (by omega),Nat.add_sub_cancel]
    · have hd:(decide (i < l.length) && cmpK (l[i]?.getD (0,0)).1 key == 0) = false:=by
        by_cases hil:i < l.length
        · have hne:(l[i]?.getD (0,0)).1 ≠ key:=fun e=>hf ⟨hil,e⟩
          have:cmpK (l[i]?.getD (0,0)).1 key ≠ 0:=by
            unfold cmpK
            split
            · decide
            · split
              · decide
              · omega
          simp [this]
        · simp [hil]
      rw [hd]
      simp only [Bool.false_eq_true,if_false]
      have hr:=rfGo_take key l i b1 (fun k h hk'=>Int.le_of_lt (b2 k h hk')) (fun k h hk'=>by
        have h3:=b3 k h hk'
        intro hle
        have hke:(l[k]'h).1 = key:=by omega
        rcases Nat.lt_or_ge i k with h4 | h4
        · have:=List.pairwise_iff_getElem.1 hx i k (by omega) h h4
          have:=b3 i (by omega) (Nat.le_refl _)
          omega
        · have:k = i:=by omega
          subst this
          exact hf ⟨h,by rw [List.getElem?_eq_getElem h]; exact hke⟩) ((0,0),false)
      rw [hr]
      by_cases h0:i = 0
      · subst h0
        rfl
      · rw [if_neg (by omega),if_neg h0,show ((i:Int) - 1).toNat = i - 1 by omega]
theorem rng_agree (key n:Int):∀ (l out:List It),(out.length:Int)≤n→rngGo key n l out = rrGo key n l out
  | [],_,_=>rfl
  | x :: r,out,h=>by
    simp only [rngGo,rrGo]
    by_cases he:(out.length:Int) = n
    · rw [if_pos he,if_neg (show ¬ (out.length:Int) < n by omega)]
    · rw [if_neg he,if_pos (show (out.length:Int) < n by omega)]
      by_cases hk:x.1 < key
      · rw [if_pos hk,if_neg (show ¬ x.1 ≥ key by omega)]
        exact rng_agree key n r out h
      · rw [if_neg hk,if_pos (show x.1 ≥ key by omega)]
        refine rng_agree key n r _ ?_
        rw [List.length_append,List.length_singleton]
        omega
theorem range_agree (ps:List Pg) (root key n:Int):rangeF ps root key n = ((if (refReadF ps root).2.2 ≠ 0∨n < 0 then [] else rrGo key n (refReadF ps root).1 []),(if (refReadF ps root).2.2 ≠ 0 then (refReadF ps root).2.2 else if n < 0 then 4 else 0)):=by
  unfold rangeF refReadF
  by_cases he:(treeF ps root).2 ≠ 0
  · simp [he]
  · simp only [he,if_false,not_true,false_or,ne_eq,not_false_iff]
    by_cases hn:n < 0
    · simp [hn]
    · simp only [hn,if_false]
      rw [rng_agree key n _ _ (by simp; omega)]
theorem reach_agree (ps:List Pg) (root:Int):reachF ps root = ((refReadF ps root).2.1,(refReadF ps root).2.2):=by
  unfold reachF refReadF
  split <;> rfl
theorem node_own (ps:List Pg):∀ (n:Nat) (at_ level:Int) (lo hi:Option Int) (w:WS),nodeF (ps.map own0) n at_ level lo hi w = nodeF ps n at_ level lo hi w
  | 0,_,_,_,_,_=>rfl
  | n+1,at_,level,lo,hi,w=>by
    have e:(((ps.map own0)[(at_ - 1).toNat]?).getD (0,[])).2 = ((ps[(at_ - 1).toNat]?).getD (0,[])).2:=by
      rw [List.getElem?_map]
      cases ps[(at_ - 1).toNat]? <;> rfl
    have hf:(fun k a b w=>nodeF (ps.map own0) n k (level+1) a b w) = fun k a b w=>nodeF ps n k (level+1) a b w:=by
      funext k a b w
      exact node_own ps n k (level+1) a b w
    simp only [nodeF,e,hf,List.length_map]
theorem tree_own (ps:List Pg) (root:Int):treeF (ps.map own0) root = treeF ps root:=by
  unfold treeF
  simp only [List.length_map,node_own]
theorem floor_own (ps:List Pg) (root key:Int):floorF (ps.map own0) root key = floorF ps root key:=by unfold floorF; simp only [tree_own]
theorem range_own (ps:List Pg) (root key n:Int):rangeF (ps.map own0) root key n = rangeF ps root key n:=by unfold rangeF; simp only [tree_own]
theorem reach_own (ps:List Pg) (root:Int):reachF (ps.map own0) root = reachF ps root:=by unfold reachF; simp only [tree_own,List.length_map]
end Go.VL
end
