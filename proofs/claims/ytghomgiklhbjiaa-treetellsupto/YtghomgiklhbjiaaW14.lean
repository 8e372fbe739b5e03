/- Proved: TreeTells: whatever tree, root, key and number come in (together of bulk at most 1048576), the call returns true and they read as they did; no other condition. This text is part 14 of 18. -/
import Derived.Test.YtghomgiklhbjiaaW13
set_option linter.unusedSimpArgs false
set_option linter.unusedVariables false
section
set_option maxRecDepth 10000
set_option maxHeartbeats 4000000
namespace Go.VL
open Go Go.Proofs
open Nat renaming reduceAdd → ja, reduceEqDiff → jb, reduceSub → jc, reduceMul → jd, reduceLeDiff → je, reduceBEq → jf, reduceLT → jg
open Int renaming reduceLT → jh, reduceLE → ji
open Go.VL renaming thenK → jk, blockK → jl, loopK → jm, loopG → jn
def di86_6:List DI:=[⟨[3],[],false,[0],some 39,[]⟩,⟨[39],[0],false,[0],some 40,[0]⟩,⟨[40],[0,1],false,[0],some 41,[1]⟩,⟨[1,41],[0,1,2],false,[0],some 42,[2]⟩,⟨[41,42],rg 0 4,false,[0],some 43,[3,2]⟩,⟨[3,41],[0,1,2],false,[0],some 44,[2]⟩,⟨[41,43,44],rg 0 6,false,[0],some 45,[4,5,2]⟩,⟨[41,45],rg 0 7,false,[0],some 46,[6,2]⟩,⟨[41,46],rg 0 8,false,[0],some 47,[7,2]⟩,⟨[1,41],[0,1,2],false,[0],some 48,[2]⟩,⟨[41,48],[0,1,2,9],false,[0],some 49,[9,2]⟩,⟨[3,41],[0,1,2],false,[0],some 50,[2]⟩,⟨[41,50],[0,1,2,11],false,[0],some 51,[11,2]⟩,⟨[41,49,51],([0,1,2] ++ rg 9 4),false,[0],some 52,[10,12,2]⟩,⟨[41,52],([0,1,2] ++ rg 9 5),false,[0],some 53,[13,2]⟩,⟨[41,53],([0,1,2] ++ rg 9 6),false,[0],some 54,[14,2]⟩,⟨[41,47,54],rg 0 16,false,[0],some 55,[8,15,2]⟩,⟨[41,55],rg 0 17,false,[0],some 56,[2,16]⟩,⟨[56],rg 0 18,false,[0],some 57,[17,2]⟩,⟨[1,57],rg 0 19,false,[0],some 58,[18]⟩,⟨[57,58],rg 0 20,false,[0],some 59,[19,18]⟩,⟨[57,59],rg 0 21,false,[0],some 60,[20,18]⟩,⟨[57,60],rg 0 22,false,[0],some 61,[21,18]⟩,⟨[57,61],rg 0 23,false,[0],some 62,[22,18,18]⟩,⟨[1,62],rg 0 24,false,[0],some 63,[23]⟩,⟨[62,63],rg 0 25,false,[0],some 64,[24,23]⟩,⟨[3,62],rg 0 24,false,[0],some 65,[23]⟩,⟨[62,64,65],rg 0 27,false,[0],some 66,[25,26,23]⟩,⟨[62,66],rg 0 28,false,[0],some 67,[27,23]⟩,⟨[62,67],rg 0 29,false,[0],some 68,[28,23]⟩,⟨[62,68],rg 0 30,false,[0],some 69,[29,23]⟩,⟨[57,62,69],rg 0 31,false,[0],some 70,[23,30,18]⟩,⟨[57,70],rg 0 32,false,[0],some 71,[18,31]⟩]
def di86_16:List DI:=[⟨[1],[],false,[0],some 98,[]⟩,⟨[98],[0],false,[0],some 99,[0]⟩,⟨[5],[],false,[0],some 100,[]⟩,⟨[99,100],[0,1,2],false,[0],some 101,[1,2]⟩,⟨[101],rg 0 4,false,[0],some 102,[3]⟩,⟨[1],[],false,[0],some 103,[]⟩,⟨[103],[5],false,[0],some 104,[5]⟩,⟨[4],[],false,[0],some 105,[]⟩,⟨[104,105],[5,6,7],false,[0],some 106,[6,7]⟩,⟨[106],rg 5 4,false,[0],some 107,[8]⟩,⟨[102,107],rg 0 10,false,[0],some 108,[4,9]⟩]
theorem idxF_nonneg (v:Int):∀ (l:List Int) (i:Nat),(idxF v l i ≥ 0) ↔ v ∈ l
  | [],i=>by simp [idxF]
  | k :: r,i=>by
    simp only [idxF,List.mem_cons]
    split
    · rename_i h; simp [h]
    · rename_i h
      rw [idxF_nonneg v r (i+1)]
      simp [h]
theorem hasF_iff (v:Int) (l:List Int):hasF v l = true ↔ v ∈ l:=by
  unfold hasF
  rw [decide_eq_true_eq,idxF_nonneg]
theorem refCheck_ok (c c':Nat) (xs:List It) (ks:List Int) (hl:xs.length≤1048576) (hkl:ks.length≤1048576) (hv:∀ x ∈ xs,0≤x.2) (σ:List Ob):Ok Try.prog 86 [nodeD c c' xs ks] σ (.ret (.int .i64 (checkF xs ks))) σ:=by
  obtain ⟨X,hX⟩:∃ X,X = xs.map eT:=⟨_,rfl⟩
  have hXl:X.length = xs.length:=by rw [hX,List.length_map]
  obtain ⟨Y,hY⟩:∃ Y,Y = ks.map eI:=⟨_,rfl⟩
  have hYl:Y.length = ks.length:=by rw [hY,List.length_map]
  have hlow:∀ m,Low m (.vec c 2 X):=fun m=>by rw [hX]; exact low_items m c xs
  have hlowY:∀ m,Low m (.vec c' 1 Y):=fun m=>by rw [hY]; exact low_kids m c' ks
  unfold nodeD
  rw [← hX,← hY]
  obtain ⟨R,hR⟩:∃ R,R = checkF xs ks:=⟨_,rfl⟩
  rw [← hR]
  refine Ok.thaw (c:=0) (O:=[.arr 123 2 [.agg [.vec c 2 X,.vec c' 1 Y]]]) ?_ .int (by simp [low_agg,low_int,hlow,hlowY]) σ
  refine Ok.of_body layOk Try.func86 rfl (by decide) (by simp [Try.ntmps86]) fun C hP hn hσ hfix hdd=>?_
  rw [show Try.f86.ntmps = 109 from rfl] at hn
  have hL:LayOk C.P L:=hP ▸ layOk
  have hm:C.P.follows .mixedOrders = true:=hP ▸ mixed
  by_cases b1:xs.length < 1
  · have d1:decide (((xs.length:Nat):Int) < 1) = true:=decide_eq_true (by omega)
    rw [show R = 9 by rw [hR]; simp [checkF,b1]]
    repeat (first|((first|refine sA hL hn rfl ?_|refine sB hL hn rfl ?_);simp only [go_sem,jf,jh,ji,ja,jb,reduceIte,jc,jg,jd,je,reduceCtorEq,hXl,d1])|((first|refine sC ?_|refine sH ?_|refine sI ?_|refine sJ ?_);try simp only [jk,jl,jm,jn,if_true,if_false,jb])|refine sD ?_|refine sE ?_|refine sF rfl ?_|refine sG rfl ?_)
    exact ⟨_,_,_,Ghost.refl _ _,rfl,GhostV.refl _ _ _,rfl⟩
  have d1:decide (((xs.length:Nat):Int) < 1) = false:=decide_eq_false (by omega)
  by_cases b2:3 < xs.length
  · have d2:decide (((xs.length:Nat):Int) > 3) = true:=decide_eq_true (by omega)
    rw [show R = 9 by rw [hR]; simp [checkF,b2]]
    repeat (first|((first|refine sA hL hn rfl ?_|refine sB hL hn rfl ?_);simp only [go_sem,jf,jh,ji,ja,jb,reduceIte,jc,jg,jd,je,reduceCtorEq,hXl,d1,d2])|((first|refine sC ?_|refine sH ?_|refine sI ?_|refine sJ ?_);try simp only [jk,jl,jm,jn,if_true,if_false,jb])|refine sD ?_|refine sE ?_|refine sF rfl ?_|refine sG rfl ?_)
    exact ⟨_,_,_,Ghost.refl _ _,rfl,GhostV.refl _ _ _,rfl⟩
  have d2:decide (((xs.length:Nat):Int) > 3) = false:=decide_eq_false (by omega)
  have w0:IntKind.i64.wrap (((xs.length:Nat):Int)+1) = ((xs.length+1:Nat):Int):=wi (by omega) (by omega)
  have hfirst:(0 < ks.length∧ks.length ≠ xs.length+1)∨(decide (((ks.length:Nat):Int) > 0) = true∧(((ks.length:Nat):Int) != ((xs.length+1:Nat):Int)) = false)∨decide (((ks.length:Nat):Int) > 0) = false:=by
    by_cases h:0 < ks.length
    · by_cases h2:ks.length = xs.length+1
      · exact .inr (.inl ⟨decide_eq_true (by omega),by simp; omega⟩)
      · exact .inl ⟨h,h2⟩
    · exact .inr (.inr (decide_eq_false (by omega)))
  rcases hfirst with h | h | h
  · have d3:decide (((ks.length:Nat):Int) > 0) = true:=decide_eq_true (by omega)
    have d4:(((ks.length:Nat):Int) != ((xs.length+1:Nat):Int)) = true:=bne_iff_ne.2 (by omega)
    rw [show R = 9 by rw [hR]; unfold checkF; rw [if_pos (.inr (.inr h))]]
    obtain ⟨xl1,hxl1⟩:∃ n,n = xs.length+1:=⟨_,rfl⟩
    rw [← hxl1] at w0 d4
    repeat (first|((first|refine sA hL hn rfl ?_|refine sB hL hn rfl ?_);simp only [go_sem,jf,jh,ji,ja,jb,reduceIte,jc,jg,jd,je,reduceCtorEq,hXl,hYl,d1,d2,d3,w0,d4])|((first|refine sC ?_|refine sH ?_|refine sI ?_|refine sJ ?_);try simp only [jk,jl,jm,jn,if_true,if_false,jb])|refine sD ?_|refine sE ?_|refine sF rfl ?_|refine sG rfl ?_)
    exact ⟨_,_,_,Ghost.refl _ _,rfl,GhostV.refl _ _ _,rfl⟩
  rotate_left
  repeat (first|((first|refine sA hL hn rfl ?_|refine sB hL hn rfl ?_);simp only [go_sem,jf,jh,ji,ja,jb,reduceIte,jc,jg,jd,je,reduceCtorEq,hXl,hYl,d1,d2,h])|((first|refine sC ?_|refine sH ?_|refine sI ?_|refine sJ ?_);try simp only [jk,jl,jm,jn,if_true,if_false,jb])|refine sD ?_|refine sE ?_|refine sF rfl ?_|refine sG rfl ?_)
  rotate_left
  obtain ⟨xl1,hxl1⟩:∃ n,n = xs.length+1:=⟨_,rfl⟩
  rw [← hxl1] at w0 h
  repeat (first|((first|refine sA hL hn rfl ?_|refine sB hL hn rfl ?_);simp only [go_sem,jf,jh,ji,ja,jb,reduceIte,jc,jg,jd,je,reduceCtorEq,hXl,hYl,d1,d2,h.1,w0,h.2])|((first|refine sC ?_|refine sH ?_|refine sI ?_|refine sJ ?_);try simp only [jk,jl,jm,jn,if_true,if_false,jb])|refine sD ?_|refine sE ?_|refine sF rfl ?_|refine sG rfl ?_)
  all_goals
    have hcf:R = if chk1 (decide (0 < ks.length)) none xs = true∧chk2 [] ks = true then 0 else 9:=by
      rw [hR]
      unfold checkF
      rw [if_neg]
      rintro (e | e | ⟨e1,e2⟩)
      · exact b1 e
      · exact b2 e
      · first | (have:=of_decide_eq_false h; omega) | (have:=h.2; simp at this; omega)
    obtain ⟨kb,hkb⟩:∃ kb,kb = decide (0 < ks.length):=⟨_,rfl⟩
    obtain ⟨r1,hr1⟩:∃ r1,r1 = chk1 kb none xs:=⟨_,rfl⟩
    obtain ⟨r2,hr2⟩:∃ r2,r2 = chk2 [] ks:=⟨_,rfl⟩
    rw [← hkb,← hr1,← hr2] at hcf
    have dk:decide (((ks.length:Nat):Int) > 0) = kb:=by rw [hkb]; simp
    clear h
    clear hkb hR
    refine SW.lpg (fun k:Nat=>⟨[(1,.ptr 0 1 0 0),(3,.int .i64 k)],[.arr 123 2 [.agg [.vec c 2 X,.vec c' 1 Y]]]⟩) (fun k=>xs.length - k) (fun k=>k≤xs.length∧chk1 kb (prevK xs k) (xs.drop k) = r1) 0 ⟨by omega,hr1.symm⟩ (.of rfl (by simp [agree,lk])) ?_
    rintro k ⟨hk,hrest⟩
    by_cases hlt:k < xs.length
    · have e1:decide ((k:Int) < ((xs.length:Nat):Int)) = true:=decide_eq_true (by omega)
      have e2:(0≤(k:Int)∧(k:Int) < ((xs.length:Nat):Int)):=by omega
      obtain ⟨p,hp⟩:∃ p,p = xs[k]'hlt:=⟨_,rfl⟩
      have hpv:0≤p.2:=hv p (by rw [hp]; exact List.getElem_mem hlt)
      obtain ⟨p1,p2⟩:=p
      have e3:X[k]?.getD .undef = .agg [.int .u64 p1,.int .u64 p2]:=by rw [hX]; simp [hlt,eT,← hp]
      have w1:IntKind.i64.wrap ((k:Int)+1) = ((k+1:Nat):Int):=wi (by omega) (by omega)
      have hpn:prevK xs (k+1) = some p1:=by simp [prevK,hlt,← hp]
      rw [List.drop_eq_getElem_cons hlt,← hp] at hrest
      simp only [chk1] at hrest
      have hval:∀ b:Prop,(b∨(kb = true∧p2 > 0)) ↔ (b∨(kb && (p2 != 0)) = true):=fun b=>by
        cases kb
        · simp
        · simp only [true_and,Bool.true_and,bne_iff_ne]
          constructor
          · rintro (h | h)
            · exact .inl h
            · exact .inr (by omega)
          · rintro (h | h)
            · exact .inl h
            · exact .inr (by show 0 < p2; simp only at hpv; omega)
      have hprev:(k = 0∧decide ((k:Int) > 0) = false∧prevK xs k = none)∨∃ (j:Nat) (o1 o2:Int),decide ((k:Int) > 0) = true∧IntKind.i64.wrap ((k:Int) - 1) = (j:Int)∧(0≤(j:Int)∧(j:Int) < ((xs.length:Nat):Int))∧X[j]?.getD .undef = .agg [.int .u64 o1,.int .u64 o2]∧prevK xs k = some o1:=by
        by_cases hk0:k = 0
        · exact .inl ⟨hk0,decide_eq_false (by omega),by simp [prevK,hk0]⟩
        · obtain ⟨o,ho⟩:∃ o,xs[k - 1]? = some o:=⟨_,List.getElem?_eq_getElem (by omega)⟩
          refine .inr ⟨k - 1,o.1,o.2,decide_eq_true (by omega),wi (by omega) (by omega),by omega,?_,?_⟩
          · rw [hX,List.getElem?_map,ho]; rfl
          · simp [prevK,hk0,ho]
      rcases hprev with ⟨_,d5,hp0⟩ | ⟨j,o1,o2,d5,w2,e4,e5,hp0⟩
      · rw [hp0] at hrest
        simp only [Option.any_none,Bool.false_eq_true,false_or] at hrest
        have hval':(kb = true∧p2 > 0) ↔ (kb && (p2 != 0)) = true:=by simpa using hval False
        cases hkv:(kb && (p2 != 0))
        · rw [if_neg (by rw [hval',hkv]; simp)] at hrest
          cases kb
          · repeat (first|((first|refine sA hL hn rfl ?_|refine sB hL hn rfl ?_);simp only [go_sem,jf,jh,ji,ja,jb,reduceIte,jc,jg,jd,je,reduceCtorEq,e1,hXl])|((first|refine sC ?_|refine sH ?_|refine sI ?_|refine sJ ?_);try simp only [jk,jl,jm,jn,if_true,if_false,jb])|refine sD ?_|refine sE ?_|refine sF rfl ?_|refine sG rfl ?_)
            refine sM hL hm hn di86_6 [[.arr 123 2 [.agg [.vec c 2 X,.vec c' 1 Y]]]] rfl rfl rfl ?_
            unfold di86_6
            repeat (rw [dgo_cons]; simp (maxSteps:=2000000) only [go_sem,jf,jh,ji,ja,jb,reduceIte,jc,jg,jd,je,reduceCtorEq,hYl,hXl,dk,d5])
            try rw [dgo_nil]
            try simp only [go_sem,jf,jh,ji,ja,jb,reduceIte,jc,jg,jd,je,reduceCtorEq,hYl,hXl,dk,d5]
            repeat (first|((first|refine sA hL hn rfl ?_|refine sB hL hn rfl ?_);simp only [go_sem,jf,jh,ji,ja,jb,reduceIte,jc,jg,jd,je,reduceCtorEq,w1])|((first|refine sC ?_|refine sH ?_|refine sI ?_|refine sJ ?_);try simp only [jk,jl,jm,jn,if_true,if_false,jb])|refine sD ?_|refine sE ?_|refine sF rfl ?_|refine sG rfl ?_)
            exact Lp.nextg (k+1) ⟨by omega,by rw [hpn]; exact hrest⟩ (by omega) (.of rfl (by simp [agree,lk]))
          · have d6:(p2 != 0) = false:=by simpa using hkv
            repeat (first|((first|refine sA hL hn rfl ?_|refine sB hL hn rfl ?_);simp only [go_sem,jf,jh,ji,ja,jb,reduceIte,jc,jg,jd,je,reduceCtorEq,e1,hXl])|((first|refine sC ?_|refine sH ?_|refine sI ?_|refine sJ ?_);try simp only [jk,jl,jm,jn,if_true,if_false,jb])|refine sD ?_|refine sE ?_|refine sF rfl ?_|refine sG rfl ?_)
            refine sM hL hm hn di86_6 [[.arr 123 2 [.agg [.vec c 2 X,.vec c' 1 Y]]]] rfl rfl rfl ?_
            unfold di86_6
            repeat (rw [dgo_cons]; simp (maxSteps:=2000000) only [go_sem,jf,jh,ji,ja,jb,reduceIte,jc,jg,jd,je,reduceCtorEq,hYl,hXl,dk,d5,e2,e3,d6])
            try rw [dgo_nil]
            try simp only [go_sem,jf,jh,ji,ja,jb,reduceIte,jc,jg,jd,je,reduceCtorEq,hYl,hXl,dk,d5,e2,e3,d6]
            repeat (first|((first|refine sA hL hn rfl ?_|refine sB hL hn rfl ?_);simp only [go_sem,jf,jh,ji,ja,jb,reduceIte,jc,jg,jd,je,reduceCtorEq,w1])|((first|refine sC ?_|refine sH ?_|refine sI ?_|refine sJ ?_);try simp only [jk,jl,jm,jn,if_true,if_false,jb])|refine sD ?_|refine sE ?_|refine sF rfl ?_|refine sG rfl ?_)
            exact Lp.nextg (k+1) ⟨by omega,by rw [hpn]; exact hrest⟩ (by omega) (.of rfl (by simp [agree,lk]))
        · rw [if_pos (by rw [hval',hkv])] at hrest
          have d7:kb = true∧(p2 != 0) = true:=by simpa using hkv
          obtain ⟨rfl,d6⟩:=d7
          rw [← hrest,if_neg (by simp)] at hcf
          repeat (first|((first|refine sA hL hn rfl ?_|refine sB hL hn rfl ?_);simp only [go_sem,jf,jh,ji,ja,jb,reduceIte,jc,jg,jd,je,reduceCtorEq,e1,hXl])|((first|refine sC ?_|refine sH ?_|refine sI ?_|refine sJ ?_);try simp only [jk,jl,jm,jn,if_true,if_false,jb])|refine sD ?_|refine sE ?_|refine sF rfl ?_|refine sG rfl ?_)
          refine sM hL hm hn di86_6 [[.arr 123 2 [.agg [.vec c 2 X,.vec c' 1 Y]]]] rfl rfl rfl ?_
          unfold di86_6
          repeat (rw [dgo_cons]; simp (maxSteps:=2000000) only [go_sem,jf,jh,ji,ja,jb,reduceIte,jc,jg,jd,je,reduceCtorEq,hYl,hXl,dk,d5,e2,e3,d6])
          try rw [dgo_nil]
          try simp only [go_sem,jf,jh,ji,ja,jb,reduceIte,jc,jg,jd,je,reduceCtorEq,hYl,hXl,dk,d5,e2,e3,d6]
          repeat (first|((first|refine sA hL hn rfl ?_|refine sB hL hn rfl ?_);simp only [go_sem,jf,jh,ji,ja,jb,reduceIte,jc,jg,jd,je,reduceCtorEq])|((first|refine sC ?_|refine sH ?_|refine sI ?_|refine sJ ?_);try simp only [jk,jl,jm,jn,if_true,if_false,jb])|refine sD ?_|refine sE ?_|refine sF rfl ?_|refine sG rfl ?_)
          rw [hcf]
          exact ⟨_,_,_,Ghost.refl _ _,rfl,GhostV.refl _ _ _,rfl⟩
      · rw [hp0] at hrest
        simp only [Option.any_some,decide_eq_true_eq] at hrest
        by_cases hle:p1≤o1
        · have d7:decide (p1≤o1) = true:=decide_eq_true hle
          rw [if_pos (.inl hle)] at hrest
          rw [← hrest,if_neg (by simp)] at hcf
          repeat (first|((first|refine sA hL hn rfl ?_|refine sB hL hn rfl ?_);simp only [go_sem,jf,jh,ji,ja,jb,reduceIte,jc,jg,jd,je,reduceCtorEq,e1,hXl])|((first|refine sC ?_|refine sH ?_|refine sI ?_|refine sJ ?_);try simp only [jk,jl,jm,jn,if_true,if_false,jb])|refine sD ?_|refine sE ?_|refine sF rfl ?_|refine sG rfl ?_)
          refine sM hL hm hn di86_6 [[.arr 123 2 [.agg [.vec c 2 X,.vec c' 1 Y]]]] rfl rfl rfl ?_
          unfold di86_6
          repeat (rw [dgo_cons]; simp (maxSteps:=2000000) only [go_sem,jf,jh,ji,ja,jb,reduceIte,jc,jg,jd,je,reduceCtorEq,hYl,hXl,dk,d5,e2,e3,w2,e4,e5,d7])
          try rw [dgo_nil]
          try simp only [go_sem,jf,jh,ji,ja,jb,reduceIte,jc,jg,jd,je,reduceCtorEq,hYl,hXl,dk,d5,e2,e3,w2,e4,e5,d7]
          repeat (first|((first|refine sA hL hn rfl ?_|refine sB hL hn rfl ?_);simp only [go_sem,jf,jh,ji,ja,jb,reduceIte,jc,jg,jd,je,reduceCtorEq])|((first|refine sC ?_|refine sH ?_|refine sI ?_|refine sJ ?_);try simp only [jk,jl,jm,jn,if_true,if_false,jb])|refine sD ?_|refine sE ?_|refine sF rfl ?_|refine sG rfl ?_)
          rw [hcf]
          exact ⟨_,_,_,Ghost.refl _ _,rfl,GhostV.refl _ _ _,rfl⟩
        · have d7:decide (p1≤o1) = false:=decide_eq_false hle
          have hval':(p1≤o1∨(kb = true∧p2 > 0)) ↔ (kb && (p2 != 0)) = true:=by rw [hval]; simp [hle]
          cases hkv:(kb && (p2 != 0))
          · rw [if_neg (by rw [hval',hkv]; simp)] at hrest
            cases kb
            · repeat (first|((first|refine sA hL hn rfl ?_|refine sB hL hn rfl ?_);simp only [go_sem,jf,jh,ji,ja,jb,reduceIte,jc,jg,jd,je,reduceCtorEq,e1,hXl])|((first|refine sC ?_|refine sH ?_|refine sI ?_|refine sJ ?_);try simp only [jk,jl,jm,jn,if_true,if_false,jb])|refine sD ?_|refine sE ?_|refine sF rfl ?_|refine sG rfl ?_)
              refine sM hL hm hn di86_6 [[.arr 123 2 [.agg [.vec c 2 X,.vec c' 1 Y]]]] rfl rfl rfl ?_
              unfold di86_6
              repeat (rw [dgo_cons]; simp (maxSteps:=2000000) only [go_sem,jf,jh,ji,ja,jb,reduceIte,jc,jg,jd,je,reduceCtorEq,hYl,hXl,dk,d5,e2,e3,w2,e4,e5,d7])
              try rw [dgo_nil]
              try simp only [go_sem,jf,jh,ji,ja,jb,reduceIte,jc,jg,jd,je,reduceCtorEq,hYl,hXl,dk,d5,e2,e3,w2,e4,e5,d7]
              repeat (first|((first|refine sA hL hn rfl ?_|refine sB hL hn rfl ?_);simp only [go_sem,jf,jh,ji,ja,jb,reduceIte,jc,jg,jd,je,reduceCtorEq,w1])|((first|refine sC ?_|refine sH ?_|refine sI ?_|refine sJ ?_);try simp only [jk,jl,jm,jn,if_true,if_false,jb])|refine sD ?_|refine sE ?_|refine sF rfl ?_|refine sG rfl ?_)
              exact Lp.nextg (k+1) ⟨by omega,by rw [hpn]; exact hrest⟩ (by omega) (.of rfl (by simp [agree,lk]))
            · have d6:(p2 != 0) = false:=by simpa using hkv
              repeat (first|((first|refine sA hL hn rfl ?_|refine sB hL hn rfl ?_);simp only [go_sem,jf,jh,ji,ja,jb,reduceIte,jc,jg,jd,je,reduceCtorEq,e1,hXl])|((first|refine sC ?_|refine sH ?_|refine sI ?_|refine sJ ?_);try simp only [jk,jl,jm,jn,if_true,if_false,jb])|refine sD ?_|refine sE ?_|refine sF rfl ?_|refine sG rfl ?_)
              refine sM hL hm hn di86_6 [[.arr 123 2 [.agg [.vec c 2 X,.vec c' 1 Y]]]] rfl rfl rfl ?_
              unfold di86_6
              repeat (rw [dgo_cons]; simp (maxSteps:=2000000) only [go_sem,jf,jh,ji,ja,jb,reduceIte,jc,jg,jd,je,reduceCtorEq,hYl,hXl,dk,d5,e2,e3,w2,e4,e5,d7,d6])
              try rw [dgo_nil]
              try simp only [go_sem,jf,jh,ji,ja,jb,reduceIte,jc,jg,jd,je,reduceCtorEq,hYl,hXl,dk,d5,e2,e3,w2,e4,e5,d7,d6]
              repeat (first|((first|refine sA hL hn rfl ?_|refine sB hL hn rfl ?_);simp only [go_sem,jf,jh,ji,ja,jb,reduceIte,jc,jg,jd,je,reduceCtorEq,w1])|((first|refine sC ?_|refine sH ?_|refine sI ?_|refine sJ ?_);try simp only [jk,jl,jm,jn,if_true,if_false,jb])|refine sD ?_|refine sE ?_|refine sF rfl ?_|refine sG rfl ?_)
              exact Lp.nextg (k+1) ⟨by omega,by rw [hpn]; exact hrest⟩ (by omega) (.of rfl (by simp [agree,lk]))
          · rw [if_pos (by rw [hval',hkv])] at hrest
            have d8:kb = true∧(p2 != 0) = true:=by simpa using hkv
            obtain ⟨rfl,d6⟩:=d8
            rw [← hrest,if_neg (by simp)] at hcf
            repeat (first|((first|refine sA hL hn rfl ?_|refine sB hL hn rfl ?_);simp only [go_sem,jf,jh,ji,ja,jb,reduceIte,jc,jg,jd,je,reduceCtorEq,e1,hXl])|((first|refine sC ?_|refine sH ?_|refine sI ?_|refine sJ ?_);try simp only [jk,jl,jm,jn,if_true,if_false,jb])|refine sD ?_|refine sE ?_|refine sF rfl ?_|refine sG rfl ?_)
            refine sM hL hm hn di86_6 [[.arr 123 2 [.agg [.vec c 2 X,.vec c' 1 Y]]]] rfl rfl rfl ?_
            unfold di86_6
            repeat (rw [dgo_cons]; simp (maxSteps:=2000000) only [go_sem,jf,jh,ji,ja,jb,reduceIte,jc,jg,jd,je,reduceCtorEq,hYl,hXl,dk,d5,e2,e3,w2,e4,e5,d7,d6])
            try rw [dgo_nil]
            try simp only [go_sem,jf,jh,ji,ja,jb,reduceIte,jc,jg,jd,je,reduceCtorEq,hYl,hXl,dk,d5,e2,e3,w2,e4,e5,d7,d6]
            repeat (first|((first|refine sA hL hn rfl ?_|refine sB hL hn rfl ?_);simp only [go_sem,jf,jh,ji,ja,jb,reduceIte,jc,jg,jd,je,reduceCtorEq])|((first|refine sC ?_|refine sH ?_|refine sI ?_|refine sJ ?_);try simp only [jk,jl,jm,jn,if_true,if_false,jb])|refine sD ?_|refine sE ?_|refine sF rfl ?_|refine sG rfl ?_)
            rw [hcf]
            exact ⟨_,_,_,Ghost.refl _ _,rfl,GhostV.refl _ _ _,rfl⟩
    · have e1:decide ((k:Int) < ((xs.length:Nat):Int)) = false:=decide_eq_false (by omega)
      rw [List.drop_of_length_le (by omega)] at hrest
      simp only [chk1] at hrest
      rw [← hrest] at hcf
      repeat (first|((first|refine sA hL hn rfl ?_|refine sB hL hn rfl ?_);simp only [go_sem,jf,jh,ji,ja,jb,reduceIte,jc,jg,jd,je,reduceCtorEq,e1,hXl])|((first|refine sC ?_|refine sH ?_|refine sI ?_|refine sJ ?_);try simp only [jk,jl,jm,jn,if_true,if_false,jb])|refine sD ?_|refine sE ?_|refine sF rfl ?_|refine sG rfl ?_)
      refine SW.lpg (fun k:Nat=>⟨[(1,.ptr 0 1 0 0),(4,.int .i64 k)],[.arr 123 2 [.agg [.vec c 2 X,.vec c' 1 Y]]]⟩) (fun k=>ks.length - k) (fun k=>k≤ks.length∧chk2 (ks.take k) (ks.drop k) = r2) 0 ⟨by omega,hr2.symm⟩ (.of rfl (by simp [agree,lk])) ?_
      rintro k ⟨hk,hrest⟩
      by_cases hlt:k < ks.length
      · have e1:decide ((k:Int) < ((ks.length:Nat):Int)) = true:=decide_eq_true (by omega)
        have e2:(0≤(k:Int)∧(k:Int) < ((ks.length:Nat):Int)):=by omega
        obtain ⟨p,hp⟩:∃ p,p = ks[k]'hlt:=⟨_,rfl⟩
        have e3:Y[k]?.getD .undef = .int .i64 p:=by rw [hY]; simp [hlt,eI,← hp]
        have w1:IntKind.i64.wrap ((k:Int)+1) = ((k+1:Nat):Int):=wi (by omega) (by omega)
        have htk:ks.take k ++ [p] = ks.take (k+1):=by rw [hp]; exact List.take_append_getElem hlt
        rw [List.drop_eq_getElem_cons hlt,← hp] at hrest
        simp only [chk2] at hrest
        by_cases h1:p < 1
        · have d5:decide (p < 1) = true:=decide_eq_true h1
          rw [if_pos (.inl h1)] at hrest
          rw [← hrest,if_neg (by simp)] at hcf
          repeat (first|((first|refine sA hL hn rfl ?_|refine sB hL hn rfl ?_);simp only [go_sem,jf,jh,ji,ja,jb,reduceIte,jc,jg,jd,je,reduceCtorEq,e1,hYl,e2,e3,d5])|((first|refine sC ?_|refine sH ?_|refine sI ?_|refine sJ ?_);try simp only [jk,jl,jm,jn,if_true,if_false,jb])|refine sD ?_|refine sE ?_|refine sF rfl ?_|refine sG rfl ?_)
          rw [hcf]
          exact ⟨_,_,_,Ghost.refl _ _,rfl,GhostV.refl _ _ _,rfl⟩
        have d5:decide (p < 1) = false:=decide_eq_false h1
        by_cases h2:p > 2048
        · have d6:decide (p > 2048) = true:=decide_eq_true h2
          rw [if_pos (.inr (.inl h2))] at hrest
          rw [← hrest,if_neg (by simp)] at hcf
          repeat (first|((first|refine sA hL hn rfl ?_|refine sB hL hn rfl ?_);simp only [go_sem,jf,jh,ji,ja,jb,reduceIte,jc,jg,jd,je,reduceCtorEq,e1,hYl,e2,e3,d5,d6])|((first|refine sC ?_|refine sH ?_|refine sI ?_|refine sJ ?_);try simp only [jk,jl,jm,jn,if_true,if_false,jb])|refine sD ?_|refine sE ?_|refine sF rfl ?_|refine sG rfl ?_)
          rw [hcf]
          exact ⟨_,_,_,Ghost.refl _ _,rfl,GhostV.refl _ _ _,rfl⟩
        have d6:decide (p > 2048) = false:=decide_eq_false h2
        repeat (first|((first|refine sA hL hn rfl ?_|refine sB hL hn rfl ?_);simp only [go_sem,jf,jh,ji,ja,jb,reduceIte,jc,jg,jd,je,reduceCtorEq,e1,hYl,e2,e3,d5,d6])|((first|refine sC ?_|refine sH ?_|refine sI ?_|refine sJ ?_);try simp only [jk,jl,jm,jn,if_true,if_false,jb])|refine sD ?_|refine sE ?_|refine sF rfl ?_|refine sG rfl ?_)
        refine SW.lpg (fun j:Nat=>⟨[(1,.ptr 0 1 0 0),(4,.int .i64 k),(5,.int .i64 j)],[.arr 123 2 [.agg [.vec c 2 X,.vec c' 1 Y]]]⟩) (fun j=>k - j) (fun j=>j≤k∧p ∉ ks.take j) 0 ⟨by omega,by simp⟩ (.of rfl (by simp [agree,lk])) ?_
        rintro j ⟨hj,hnin⟩
        by_cases hjt:j < k
        · have e4:decide ((j:Int) < (k:Int)) = true:=decide_eq_true (by omega)
          have e5:(0≤(j:Int)∧(j:Int) < ((ks.length:Nat):Int)):=by omega
          obtain ⟨o,ho⟩:∃ o,o = ks[j]'(by omega):=⟨_,rfl⟩
          have e6:Y[j]?.getD .undef = .int .i64 o:=by rw [hY]; simp [show j < ks.length by omega,eI,← ho]
          have w3:IntKind.i64.wrap ((j:Int)+1) = ((j+1:Nat):Int):=wi (by omega) (by omega)
          have htj:ks.take j ++ [o] = ks.take (j+1):=by rw [ho]; exact List.take_append_getElem (by omega)
          by_cases heq:o = p
          · have d7:(o == p) = true:=by simpa using heq
            have hmem:p ∈ ks.take k:=by
              have h1:p ∈ ks.take (j+1):=by rw [← htj,heq]; simp
              exact List.mem_of_mem_take (i:=j+1) (by rw [List.take_take,Nat.min_eq_left (by omega)]; exact h1)
            rw [if_pos (.inr (.inr ((hasF_iff _ _).2 hmem)))] at hrest
            rw [← hrest,if_neg (by simp)] at hcf
            repeat (first|((first|refine sA hL hn rfl ?_|refine sB hL hn rfl ?_);simp only [go_sem,jf,jh,ji,ja,jb,reduceIte,jc,jg,jd,je,reduceCtorEq,e4])|((first|refine sC ?_|refine sH ?_|refine sI ?_|refine sJ ?_);try simp only [jk,jl,jm,jn,if_true,if_false,jb])|refine sD ?_|refine sE ?_|refine sF rfl ?_|refine sG rfl ?_)
            refine sM hL hm hn di86_16 [[.arr 123 2 [.agg [.vec c 2 X,.vec c' 1 Y]]]] rfl rfl rfl ?_
            unfold di86_16
            repeat (rw [dgo_cons]; simp (maxSteps:=2000000) only [go_sem,jf,jh,ji,ja,jb,reduceIte,jc,jg,jd,je,reduceCtorEq,hYl,e5,e6,e2,e3,d7])
            try rw [dgo_nil]
            try simp only [go_sem,jf,jh,ji,ja,jb,reduceIte,jc,jg,jd,je,reduceCtorEq,hYl,e5,e6,e2,e3,d7]
            repeat (first|((first|refine sA hL hn rfl ?_|refine sB hL hn rfl ?_);simp only [go_sem,jf,jh,ji,ja,jb,reduceIte,jc,jg,jd,je,reduceCtorEq])|((first|refine sC ?_|refine sH ?_|refine sI ?_|refine sJ ?_);try simp only [jk,jl,jm,jn,if_true,if_false,jb])|refine sD ?_|refine sE ?_|refine sF rfl ?_|refine sG rfl ?_)
            rw [hcf]
            exact ⟨_,_,_,Ghost.refl _ _,rfl,GhostV.refl _ _ _,rfl⟩
          · have d7:(o == p) = false:=by simpa using heq
            repeat (first|((first|refine sA hL hn rfl ?_|refine sB hL hn rfl ?_);simp only [go_sem,jf,jh,ji,ja,jb,reduceIte,jc,jg,jd,je,reduceCtorEq,e4])|((first|refine sC ?_|refine sH ?_|refine sI ?_|refine sJ ?_);try simp only [jk,jl,jm,jn,if_true,if_false,jb])|refine sD ?_|refine sE ?_|refine sF rfl ?_|refine sG rfl ?_)
            refine sM hL hm hn di86_16 [[.arr 123 2 [.agg [.vec c 2 X,.vec c' 1 Y]]]] rfl rfl rfl ?_
            unfold di86_16
            repeat (rw [dgo_cons]; simp (maxSteps:=2000000) only [go_sem,jf,jh,ji,ja,jb,reduceIte,jc,jg,jd,je,reduceCtorEq,hYl,e5,e6,e2,e3,d7])
            try rw [dgo_nil]
            try simp only [go_sem,jf,jh,ji,ja,jb,reduceIte,jc,jg,jd,je,reduceCtorEq,hYl,e5,e6,e2,e3,d7]
            repeat (first|((first|refine sA hL hn rfl ?_|refine sB hL hn rfl ?_);simp only [go_sem,jf,jh,ji,ja,jb,reduceIte,jc,jg,jd,je,reduceCtorEq,w3])|((first|refine sC ?_|refine sH ?_|refine sI ?_|refine sJ ?_);try simp only [jk,jl,jm,jn,if_true,if_false,jb])|refine sD ?_|refine sE ?_|refine sF rfl ?_|refine sG rfl ?_)
            refine Lp.nextg (j+1) ⟨by omega,?_⟩ (by omega) (.of rfl (by simp [agree,lk]))
            rw [← htj]
            simp only [List.mem_append,List.mem_cons,List.not_mem_nil,or_false,not_or]
            exact ⟨hnin,fun h=>heq h.symm⟩
        · have e4:decide ((j:Int) < (k:Int)) = false:=decide_eq_false (by omega)
          obtain rfl:j = k:=by omega
          have hno:¬ hasF p (ks.take j) = true:=fun h=>hnin ((hasF_iff _ _).1 h)
          rw [if_neg (by simp [h1,h2,hno])] at hrest
          rw [htk] at hrest
          repeat (first|((first|refine sA hL hn rfl ?_|refine sB hL hn rfl ?_);simp only [go_sem,jf,jh,ji,ja,jb,reduceIte,jc,jg,jd,je,reduceCtorEq,e4,w1])|((first|refine sC ?_|refine sH ?_|refine sI ?_|refine sJ ?_);try simp only [jk,jl,jm,jn,if_true,if_false,jb])|refine sD ?_|refine sE ?_|refine sF rfl ?_|refine sG rfl ?_)
          exact Lp.nextg (j+1) ⟨by omega,hrest⟩ (by omega) (.of rfl (by simp [agree,lk]))
      · have e1:decide ((k:Int) < ((ks.length:Nat):Int)) = false:=decide_eq_false (by omega)
        rw [List.drop_of_length_le (by omega)] at hrest
        simp only [chk2] at hrest
        rw [← hrest,if_pos ⟨rfl,rfl⟩] at hcf
        repeat (first|((first|refine sA hL hn rfl ?_|refine sB hL hn rfl ?_);simp only [go_sem,jf,jh,ji,ja,jb,reduceIte,jc,jg,jd,je,reduceCtorEq,e1,hYl])|((first|refine sC ?_|refine sH ?_|refine sI ?_|refine sJ ?_);try simp only [jk,jl,jm,jn,if_true,if_false,jb])|refine sD ?_|refine sE ?_|refine sF rfl ?_|refine sG rfl ?_)
        rw [hcf]
        exact ⟨_,_,_,Ghost.refl _ _,rfl,GhostV.refl _ _ _,rfl⟩
end Go.VL
end
section
set_option maxRecDepth 10000
set_option maxHeartbeats 4000000
namespace Go.VL
open Go Go.Proofs
open Nat renaming reduceAdd → ja, reduceEqDiff → jb, reduceSub → jc, reduceMul → jd, reduceLeDiff → je, reduceBEq → jf, reduceLT → jg
open Int renaming reduceLT → jh, reduceLE → ji
open Go.VL renaming thenK → jk, blockK → jl, loopK → jm, loopG → jn
def fl8 (l:List Int):List UInt8:=l.flatMap fun v=>putB v 8
def fl4 (l:List Int):List UInt8:=l.flatMap fun v=>putB v 4
theorem fl8_len (l:List Int):(fl8 l).length = 8 * l.length:=by
  induction l with
  | nil=>rfl
  | cons a r ih=>simp only [fl8,List.flatMap_cons,List.length_append,putB_length,List.length_cons] at ih ⊢; omega
theorem fl4_len (l:List Int):(fl4 l).length = 4 * l.length:=by
  induction l with
  | nil=>rfl
  | cons a r ih=>simp only [fl4,List.flatMap_cons,List.length_append,putB_length,List.length_cons] at ih ⊢; omega
theorem packF_flat:∀ (l:List (Int × Int)) (acc:List UInt8),(∀ p ∈ l,(putRes p.2 p.1).2 = 0)→(packF l acc).1 = acc ++ l.flatMap fun p=>(putRes p.2 p.1).1
  | [],acc,_=>by simp [packF]
  | (w,v) :: r,acc,h=>by
    simp only [packF]
    rw [if_pos (h (w,v) (by simp)),packF_flat r _ (fun p hp=>h p (by simp [hp]))]
    simp
theorem putRes_fit {v:Int} {w:Nat} (hw:1≤w∧w≤8) (h:(putRes v w).2 = 0):(putRes v w).1 = putB v w:=by
  unfold putRes at h ⊢
  rw [if_neg (by omega)] at h ⊢
  split at h
  · cases h
  · rename_i h2
    rw [if_neg h2,Int.toNat_natCast]
theorem zip_rep (w:Nat) (hw:1≤w∧w≤8) (f:List Int→List UInt8) (hf:∀ l,f l = l.flatMap fun v=>putB v w):∀ (l:List Int),(∀ v ∈ l,(putRes v w).2 = 0)→((List.replicate l.length (w:Int)).zip l).flatMap (fun p=>(putRes p.2 p.1).1) = f l:=by
  intro l
  rw [hf]
  induction l with
  | nil=>intro _; rfl
  | cons a r ih =>
    intro h
    rw [List.length_cons,List.replicate_succ,List.zip_cons_cons,List.flatMap_cons,List.flatMap_cons,ih fun v hv=>h v (by simp [hv])]
    simp only
    rw [putRes_fit hw (h a (by simp))]
theorem headB_eq (kd m:Nat) (hk:kd = 1∨kd = 2) (hm:m≤3):(putRes kd 1).1 ++ (putRes m 1).1 ++ (putRes 0 2).1 = [b8 kd,b8 m,0,0]:=by
  have hm':m = 0∨m = 1∨m = 2∨m = 3:=by omega
  rcases hk with rfl | rfl <;> rcases hm' with rfl | rfl | rfl | rfl <;> rfl
def flatF (xs:List It) (ks:List Int):List UInt8:=[b8 (kindF ks),b8 xs.length,0,0] ++ fl8 (xs.map (·.1)) ++ (if ks.length = 0 then fl8 (xs.map (·.2)) else []) ++ fl4 ks
theorem bodyF_flat {xs:List It} {ks:List Int} (h:checkF xs ks = 0):bodyF xs ks = flatF xs ks:=by
  obtain ⟨h1,h2,h3,h4⟩:=checkF_facts h
  have hl:=wsF_len xs ks h3
  have hwl:(wsF (kindF ks) xs.length).length≤64:=by
    unfold wsF
    split <;> simp <;> omega
  have e:packRes (wsF (kindF ks) xs.length) (valsF xs ks) = packF ((wsF (kindF ks) xs.length).zip (valsF xs ks)) []:=by
    unfold packRes
    rw [if_neg]
    rintro (h | h) <;> omega
  obtain ⟨T,hT⟩:∃ T,T = if kindF ks = 1 then List.replicate xs.length (8:Int) else List.replicate (xs.length+1) 4:=⟨_,rfl⟩
  obtain ⟨U,hU⟩:∃ U,U = ks.map IntKind.u64.wrap ++ (if ks.length = 0 then xs.map (·.2) else []):=⟨_,rfl⟩
  have hz:(wsF (kindF ks) xs.length).zip (valsF xs ks) = [((1:Int),(kindF ks:Int)),(1,(xs.length:Int)),(2,0)] ++ ((List.replicate xs.length (8:Int)).zip (xs.map (·.1)) ++ T.zip U):=by
    unfold wsF valsF
    rw [← hT,List.append_assoc ([_,_,_] ++ _),← hU,List.append_assoc,List.append_assoc]
    have e1:∀ (P Q:List Int),([1,1,2] ++ P).zip ([(kindF ks:Int),(xs.length:Int),0] ++ Q) = [((1:Int),(kindF ks:Int)),(1,(xs.length:Int)),(2,0)] ++ P.zip Q:=fun _ _=>rfl
    rw [e1,List.zip_append (by simp)]
  have hk:kindF ks = 1∨kindF ks = 2:=by unfold kindF; split <;> simp
  have hks:ks.map IntKind.u64.wrap = ks:=by
    conv=>rhs; rw [← List.map_id ks]
    refine List.map_congr_left fun k hk=>?_
    have:=h4 k hk
    exact wu (by omega) rfl
  have hall:∀ p ∈ (wsF (kindF ks) xs.length).zip (valsF xs ks),(putRes p.2 p.1).2 = 0:=by
    intro p hp
    rw [hz] at hp
    rcases List.mem_append.1 hp with hp | hp
    · simp only [List.mem_cons,List.not_mem_nil,or_false] at hp
      rcases hp with rfl | rfl | rfl
      · exact putRes_small _ 1 (by omega) (by rcases hk with e | e <;> rw [e] <;> decide)
      · exact putRes_small _ 1 (by omega) (by constructor <;> omega)
      · exact putRes_small _ 2 (by omega) (by decide)
    · rcases List.mem_append.1 hp with hp | hp
      · have:=(List.of_mem_zip (a:=p.1) (b:=p.2) hp).1
        rw [(List.mem_replicate.1 this).2]
        exact putRes_8 _
      · obtain ⟨q1,q2⟩:=List.of_mem_zip (a:=p.1) (b:=p.2) hp
        rw [hT] at q1
        rw [hU] at q2
        by_cases hk0:ks.length = 0
        · rw [if_pos (by unfold kindF; rw [if_neg (by omega)])] at q1
          rw [(List.mem_replicate.1 q1).2]
          exact putRes_8 _
        · rw [if_neg (by unfold kindF; rw [if_pos (by omega)]; decide)] at q1
          rw [if_neg hk0,List.append_nil,hks] at q2
          have hr:=h4 _ q2
          rw [(List.mem_replicate.1 q1).2]
          exact putRes_small _ 4 (by omega) (by constructor <;> omega)
  have hkeys:((List.replicate xs.length (8:Int)).zip (xs.map (·.1))).flatMap (fun p=>(putRes p.2 p.1).1) = fl8 (xs.map (·.1)):=by
    have:=zip_rep 8 (by omega) fl8 (fun _=>rfl) (xs.map (·.1)) (fun v _=>putRes_8 v)
    rw [List.length_map] at this
    exact this
  have hTU:(T.zip U).flatMap (fun p=>(putRes p.2 p.1).1) = (if ks.length = 0 then fl8 (xs.map (·.2)) else []) ++ fl4 ks:=by
    rw [hT,hU,hks]
    by_cases hk0:ks.length = 0
    · have:ks = []:=List.eq_nil_of_length_eq_zero hk0
      subst this
      have:=zip_rep 8 (by omega) fl8 (fun _=>rfl) (xs.map (·.2)) (fun v _=>putRes_8 v)
      rw [List.length_map] at this
      have e0:fl4 [] = []:=rfl
      rw [if_pos (show kindF [] = 1 from rfl),e0,List.append_nil]
      simp only [List.length_nil,if_true,List.nil_append]
      exact this
    · rw [if_neg (by unfold kindF; rw [if_pos (by omega)]; decide),if_neg hk0,if_neg hk0,List.append_nil,List.nil_append,show xs.length+1 = ks.length by omega]
      have:=zip_rep 4 (by omega) fl4 (fun _=>rfl) ks (fun v hv=>by have:=h4 v hv; exact putRes_small _ 4 (by omega) (by constructor <;> omega))
      exact this
  unfold bodyF flatF
  rw [e,packF_flat _ _ hall,hz,List.flatMap_append,List.flatMap_append,hkeys,hTU,List.nil_append,← headB_eq _ _ hk h2]
  simp
theorem checkF_two (xs:List It) (ks:List Int):checkF xs ks = 0∨checkF xs ks = 9:=by
  unfold checkF
  split
  · exact .inr rfl
  · split
    · exact .inl rfl
    · exact .inr rfl
theorem refPut8_ok (v:Int) (h:0≤v∧v < 18446744073709551616) (σ:List Ob):Ok Try.prog 87 [.int .u64 v,.int .i64 8] σ (.ret (.tup [.vec 0 1 ((putB v 8).map eB),.int .i64 0])) σ:=by
  obtain ⟨n,rfl⟩:=Int.eq_ofNat_of_zero_le h.1
  have:=refPut_ok n 8 (by omega) (by omega) σ
  have e:putRes (n:Int) ((8:Nat):Int) = (putB n 8,0):=by
    have h1:=putRes_fit (v:=(n:Int)) (w:=8) (by omega) (putRes_8 n)
    exact Prod.ext h1 (putRes_8 n)
  rw [e] at this
  exact this
theorem refPut4_ok (v:Int) (h:0≤v∧v < 4294967296) (σ:List Ob):Ok Try.prog 87 [.int .u64 v,.int .i64 4] σ (.ret (.tup [.vec 0 1 ((putB v 4).map eB),.int .i64 0])) σ:=by
  obtain ⟨n,rfl⟩:=Int.eq_ofNat_of_zero_le h.1
  have:=refPut_ok n 4 (by omega) (by omega) σ
  have hs:=putRes_small (n:Int) 4 (by omega) (by constructor <;> omega)
  have e:putRes (n:Int) ((4:Nat):Int) = (putB n 4,0):=Prod.ext (putRes_fit (by omega) hs) hs
  rw [e] at this
  exact this
def OkIt (x:It):Prop:=(0≤x.1∧x.1 < 18446744073709551616)∧0≤x.2∧x.2 < 18446744073709551616
theorem refEncode_ok (c c':Nat) (xs:List It) (ks:List Int) (hl:xs.length≤1048576) (hkl:ks.length≤1048576) (hv:∀ x ∈ xs,OkIt x) (σ:List Ob) :
    Ok Try.prog 74 [nodeD c c' xs ks] σ (.ret (.tup [.vec 0 1 ((encodeF xs ks).1.map eB),.int .i64 (encodeF xs ks).2])) σ:=by
  have hchk:=refCheck_ok c c' xs ks hl hkl (fun x hx=>(hv x hx).2.1)
  obtain ⟨X,hX⟩:∃ X,X = xs.map eT:=⟨_,rfl⟩
  have hXl:X.length = xs.length:=by rw [hX,List.length_map]
  obtain ⟨Y,hY⟩:∃ Y,Y = ks.map eI:=⟨_,rfl⟩
  have hYl:Y.length = ks.length:=by rw [hY,List.length_map]
  have hlow:∀ m,Low m (.vec c 2 X):=fun m=>by rw [hX]; exact low_items m c xs
  have hlowY:∀ m,Low m (.vec c' 1 Y):=fun m=>by rw [hY]; exact low_kids m c' ks
  unfold nodeD at hchk ⊢
  rw [← hX,← hY] at hchk ⊢
  by_cases h0:checkF xs ks = 0
  rotate_left
  · have h9:=(checkF_two xs ks).resolve_left h0
    rw [h9] at hchk
    rw [show encodeF xs ks = ([],9) by unfold encodeF; rw [if_pos h0,h9]]
    refine Ok.thaw (c:=0) (O:=[.arr 123 2 [.agg [.vec c 2 X,.vec c' 1 Y]]]) (d:=.tup [.nils,.int .i64 9]) ?_ (.two .nil .int) (by simp [low_agg,hlow,hlowY]) σ
    have d1:((9:Int) != 0) = true:=rfl
    refine Ok.of_body layOk Try.func74 rfl (by decide) (by simp [Try.ntmps74]) fun C hP hn hσ hfix hdd=>?_
    rw [show Try.f74.ntmps = 101 from rfl] at hn
    have hL:LayOk C.P L:=hP ▸ layOk
    have hm:C.P.follows .mixedOrders = true:=hP ▸ mixed
    repeat (first|((first|refine sA hL hn rfl ?_|refine sB hL hn rfl ?_);simp only [go_sem,jf,jh,ji,ja,jb,reduceIte,jc,jg,jd,je,reduceCtorEq])|((first|refine sC ?_|refine sH ?_|refine sI ?_|refine sJ ?_);try simp only [jk,jl,jm,jn,if_true,if_false,jb])|refine sD ?_|refine sE ?_|refine sF rfl ?_|refine sG rfl ?_)
    refine sK hP hL hn rfl rfl (hchk _) rfl rfl rfl rfl ?_; simp (maxSteps:=2000000) only [go_sem,jf,jh,ji,ja,jb,reduceIte,jc,jg,jd,je,reduceCtorEq]
    repeat (first|((first|refine sA hL hn rfl ?_|refine sB hL hn rfl ?_);simp only [go_sem,jf,jh,ji,ja,jb,reduceIte,jc,jg,jd,je,reduceCtorEq,d1])|((first|refine sC ?_|refine sH ?_|refine sI ?_|refine sJ ?_);try simp only [jk,jl,jm,jn,if_true,if_false,jb])|refine sD ?_|refine sE ?_|refine sF rfl ?_|refine sG rfl ?_)
    exact ⟨_,_,_,Ghost.refl _ _,rfl,GhostV.refl _ _ _,rfl⟩
  obtain ⟨f1,f2,f3,f4⟩:=checkF_facts h0
  rw [h0] at hchk
  have hbody:=bodyF_flat h0
  have hb52:=(pack_fits h0).2
  rw [hbody] at hb52
  have henc:encodeF xs ks = (sealF (flatF xs ks ++ List.replicate (60 - (flatF xs ks).length) 0),0):=by
    unfold encodeF
    rw [if_neg (by rw [h0]; simp),hbody]
  obtain ⟨B,hB⟩:∃ B,B = flatF xs ks:=⟨_,rfl⟩
  rw [← hB] at henc hb52
  obtain ⟨Z,hZ⟩:∃ Z,Z = B ++ List.replicate (60 - B.length) (0:UInt8):=⟨_,rfl⟩
  have hZl:Z.length = 60:=by rw [hZ]; simp; omega
  have hseal:=refSeal_ok 1 Z (by omega)
  obtain ⟨Zd,hZd⟩:∃ Zd,Zd = Z.map eB:=⟨_,rfl⟩
  obtain ⟨S,hS⟩:∃ S,S = (sealF Z).map eB:=⟨_,rfl⟩
  have hSl:Low 0 (.vec 0 1 S):=by rw [hS]; exact low_bytes 0 0 _
  have hsealO:∀ σ:List Ob,σ[1]? = some (.arr 5 1 Zd)→Ok Try.prog 83 [.sl 1 60 0 60] σ (.ret (.vec 0 1 S)) σ:=fun σ hσ=>by
    rw [← hS] at hseal
    refine lend1 hseal ?_ (by rw [hS]; exact cl_bytes _ _)
    rw [hZd] at hσ
    have:=Fz.list (O:=σ) (c:=1) (id:=1) (t:=5) (k:=1) (l:=Z) eB (low_eB 0) hσ
    rw [hZl] at this
    exact this
  rw [henc,← hZ,← hS]
  refine Ok.thaw (c:=0) (O:=[.arr 123 2 [.agg [.vec c 2 X,.vec c' 1 Y]],.arr 5 1 Zd]) ?_ (.low (by simp [low_tup,low_int,hSl])) (by simp [low_agg,hlow,hlowY]) σ
  obtain ⟨hd,hhd⟩:∃ hd:List UInt8,hd = [b8 (kindF ks),b8 xs.length,0,0]:=⟨_,rfl⟩
  have hhdl:hd.length = 4:=by rw [hhd]; rfl
  obtain ⟨F,hF⟩:∃ F:Nat→List DV,F = fun k=>(hd ++ fl8 ((xs.take k).map (·.1))).map eB:=⟨_,rfl⟩
  obtain ⟨G,hG⟩:∃ G:Nat→List DV,G = fun k=>(hd ++ fl8 (xs.map (·.1)) ++ (if ks.length = 0 then fl8 ((xs.take k).map (·.2)) else [])).map eB:=⟨_,rfl⟩
  obtain ⟨H,hH⟩:∃ H:Nat→List DV,H = fun k=>(hd ++ fl8 (xs.map (·.1)) ++ (if ks.length = 0 then fl8 (xs.map (·.2)) else []) ++ fl4 (ks.take k)).map eB:=⟨_,rfl⟩
  have hFl:∀ k,k≤xs.length→(F k).length = 4+8 * k:=fun k hk=>by rw [hF]; simp [fl8_len,hhdl,Nat.min_eq_left hk]
  have hGl:∀ k,k≤xs.length→(ks.length ≠ 0→k = 0)→(G k).length = 4+8 * xs.length+8 * k:=fun k hk h2=>by
    rw [hG]
    by_cases e:ks.length = 0
    · simp [e,fl8_len,hhdl,Nat.min_eq_left hk] <;> omega
    · simp [e,fl8_len,hhdl,h2 e] <;> omega
  obtain ⟨M,hM⟩:∃ M,M = 4+8 * xs.length+(if ks.length = 0 then 8 * xs.length else 0):=⟨_,rfl⟩
  have hHl:∀ k,k≤ks.length→(H k).length = M+4 * k:=fun k hk=>by
    rw [hH,hM]
    by_cases e:ks.length = 0
    · simp [e,fl8_len,fl4_len,hhdl] <;> omega
    · simp [e,fl8_len,fl4_len,hhdl,Nat.min_eq_left hk] <;> omega
  have step8:∀ (l:List Int) (v:Int),fl8 (l ++ [v]) = fl8 l ++ putB v 8:=fun l v=>by simp [fl8]
  have step4:∀ (l:List Int) (v:Int),fl4 (l ++ [v]) = fl4 l ++ putB v 4:=fun l v=>by simp [fl4]
  have hF1:∀ k (h:k < xs.length),F k ++ (putB (xs[k]'h).1 8).map eB = F (k+1):=fun k h=>by
    rw [hF]; dsimp only
    rw [← List.take_append_getElem h,List.map_append (l₁:=xs.take k),List.map_cons,List.map_nil,step8,← List.map_append,List.append_assoc]
  have hG1:∀ k (h:k < xs.length),ks.length = 0→G k ++ (putB (xs[k]'h).2 8).map eB = G (k+1):=fun k h e=>by
    rw [hG]; dsimp only
    rw [if_pos e,if_pos e,← List.take_append_getElem h,List.map_append (l₁:=xs.take k),List.map_cons,List.map_nil,step8,← List.map_append]
    simp only [List.append_assoc]
  have hH1:∀ k (h:k < ks.length),H k ++ (putB (ks[k]'h) 4).map eB = H (k+1):=fun k h=>by
    rw [hH]; dsimp only
    rw [← List.take_append_getElem h,step4,← List.map_append]
    simp only [List.append_assoc]
  have hFG:F xs.length = G 0:=by rw [hF,hG]; simp [fl8]
  have hGH:∀ k,(ks.length = 0→k = xs.length)→G k = H 0:=fun k h=>by
    rw [hG,hH]; dsimp only
    by_cases e:ks.length = 0
    · simp [e,h e,fl4]
    · simp [e,fl4]
  have hHB:H ks.length = B.map eB:=by rw [hH,hB,hhd]; simp [flatF]
  have hF0:F 0 = [.int .u8 (kindF ks:Int),.int .u8 (xs.length:Int),.int .u8 0,.int .u8 0]:=by
    rw [hF,hhd]
    have h3:xs.length = 1∨xs.length = 2∨xs.length = 3:=by omega
    have hk:kindF ks = 1∨kindF ks = 2:=by unfold kindF; split <;> simp
    rcases h3 with e | e | e <;> rcases hk with e2 | e2 <;> rw [e,e2] <;> rfl
  have aB:∀ v n,((((putB v n).map eB)).all fun y=>y.cells.all DV.one) = true:=fun v n=>all_eB _
  simp only [DV.cells] at aB
  have lB:∀ v n,((putB v n).map eB).length = n:=fun v n=>by rw [List.length_map,putB_length]
  have wm:IntKind.u8.wrap ((xs.length:Nat):Int) = ((xs.length:Nat):Int):=by rw [IntKind.wrap_u8]; omega
  have d0:((0:Int) != 0) = false:=rfl
  have hkd:(0 < ks.length∧decide (((ks.length:Nat):Int) > 0) = true∧kindF ks = 2)∨(ks.length = 0∧decide (((ks.length:Nat):Int) > 0) = false∧kindF ks = 1):=by
    by_cases h:0 < ks.length
    · exact .inl ⟨h,decide_eq_true (by omega),by unfold kindF; rw [if_pos h]⟩
    · exact .inr ⟨by omega,decide_eq_false (by omega),by unfold kindF; rw [if_neg h]⟩
  clear hF hG hH hhd
  have z04:((0:Int) < ((4:Nat):Int)) = True:=by decide
  have t0:Int.toNat 0 = 0:=rfl
  refine Ok.of_body layOk Try.func74 rfl (by decide) (by simp [Try.ntmps74]) fun C hP hn hσ hfix hdd=>?_
  rw [show Try.f74.ntmps = 101 from rfl] at hn
  have hL:LayOk C.P L:=hP ▸ layOk
  have hm:C.P.follows .mixedOrders = true:=hP ▸ mixed
  repeat (first|((first|refine sA hL hn rfl ?_|refine sB hL hn rfl ?_);simp only [go_sem,jf,jh,ji,ja,jb,reduceIte,jc,jg,jd,je,reduceCtorEq])|((first|refine sC ?_|refine sH ?_|refine sI ?_|refine sJ ?_);try simp only [jk,jl,jm,jn,if_true,if_false,jb])|refine sD ?_|refine sE ?_|refine sF rfl ?_|refine sG rfl ?_)
  refine sK hP hL hn rfl rfl (hchk _) rfl rfl rfl rfl ?_; simp (maxSteps:=2000000) only [go_sem,jf,jh,ji,ja,jb,reduceIte,jc,jg,jd,je,reduceCtorEq]
  rcases hkd with ⟨hk,dk,e2⟩ | ⟨hk,dk,e2⟩
  repeat (first|((first|refine sA hL hn rfl ?_|refine sB hL hn rfl ?_);simp only [go_sem,jf,jh,ji,ja,jb,reduceIte,jc,jg,jd,je,reduceCtorEq,d0,hXl,convDV,wm,hYl,dk])|((first|refine sC ?_|refine sH ?_|refine sI ?_|refine sJ ?_);try simp only [jk,jl,jm,jn,if_true,if_false,jb])|refine sD ?_|refine sE ?_|refine sF rfl ?_|refine sG rfl ?_)
  rotate_left
  repeat (first|((first|refine sA hL hn rfl ?_|refine sB hL hn rfl ?_);simp only [go_sem,jf,jh,ji,ja,jb,reduceIte,jc,jg,jd,je,reduceCtorEq,d0,hXl,convDV,wm,hYl,dk])|((first|refine sC ?_|refine sH ?_|refine sI ?_|refine sJ ?_);try simp only [jk,jl,jm,jn,if_true,if_false,jb])|refine sD ?_|refine sE ?_|refine sF rfl ?_|refine sG rfl ?_)
  all_goals
    refine SW.lpg (fun k:Nat=>⟨[(1,.ptr 0 1 0 0),(4,.sl 1 (4+8 * k) 0 (4+8 * k)),(5,.int .i64 k)],[Ob.arr 123 2 [.agg [.vec c 2 X,.vec c' 1 Y]],.arr 5 1 (F k)]⟩) (fun k=>xs.length - k) (fun k=>k≤xs.length) 0 (by omega) (.of (by rw [hF0,e2]; rfl) (by simp [agree,lk])) ?_
    intro k hk1
    by_cases hlt:k < xs.length
    · have e1:decide ((k:Int) < ((xs.length:Nat):Int)) = true:=decide_eq_true (by omega)
      have e3:(0≤(k:Int)∧(k:Int) < ((xs.length:Nat):Int)):=by omega
      have h1:=hF1 k hlt
      obtain ⟨p,hp⟩:∃ p,p = xs[k]'hlt:=⟨_,rfl⟩
      have hpv:=hv p (by rw [hp]; exact List.getElem_mem hlt)
      rw [← hp] at h1
      obtain ⟨p1,p2⟩:=p
      have hput:=refPut8_ok p1 hpv.1
      have e4:X[k]?.getD .undef = .agg [.int .u64 p1,.int .u64 p2]:=by rw [hX]; simp [hlt,eT,← hp]
      have w1:IntKind.i64.wrap ((k:Int)+1) = ((k+1:Nat):Int):=wi (by omega) (by omega)
      have a1:=aB p1 8
      have l1:=lB p1 8
      have l2:=hFl k hk1
      obtain ⟨PB,hPB⟩:∃ PB,PB = (putB p1 8).map eB:=⟨_,rfl⟩
      simp only [← hPB] at hput a1 l1 h1
      obtain ⟨q,hq⟩:∃ q,q = 4+8 * k:=⟨_,rfl⟩
      rw [← hq] at l2 ⊢
      have hcap:(q+8≤140737488355328) = True:=eq_true (by omega)
      have hcap2:(q≤140737488355320) = True:=eq_true (by omega)
      repeat (first|((first|refine sA hL hn rfl ?_|refine sB hL hn rfl ?_);simp only [go_sem,jf,jh,ji,ja,jb,reduceIte,jc,jg,jd,je,reduceCtorEq,e1,hXl,e3,e4])|((first|refine sC ?_|refine sH ?_|refine sI ?_|refine sJ ?_);try simp only [jk,jl,jm,jn,if_true,if_false,jb])|refine sD ?_|refine sE ?_|refine sF rfl ?_|refine sG rfl ?_)
      refine sK hP hL hn rfl rfl (hput _) rfl rfl rfl rfl ?_; simp (maxSteps:=2000000) only [go_sem,jf,jh,ji,ja,jb,reduceIte,jc,jg,jd,je,reduceCtorEq,appDV,a1,l1,l2,hcap,hcap2,h1,w1]
      repeat (first|((first|refine sA hL hn rfl ?_|refine sB hL hn rfl ?_);simp only [go_sem,jf,jh,ji,ja,jb,reduceIte,jc,jg,jd,je,reduceCtorEq,appDV,a1,l1,l2,hcap,hcap2,h1,w1])|((first|refine sC ?_|refine sH ?_|refine sI ?_|refine sJ ?_);try simp only [jk,jl,jm,jn,if_true,if_false,jb])|refine sD ?_|refine sE ?_|refine sF rfl ?_|refine sG rfl ?_)
      exact Lp.nextg (k+1) (by omega) (by omega) (.of rfl (by simp [agree,lk]; omega))
    have e1:decide ((k:Int) < ((xs.length:Nat):Int)) = false:=decide_eq_false (by omega)
    obtain rfl:k = xs.length:=by omega
    rw [hFG]
    repeat (first|((first|refine sA hL hn rfl ?_|refine sB hL hn rfl ?_);simp only [go_sem,jf,jh,ji,ja,jb,reduceIte,jc,jg,jd,je,reduceCtorEq,e1,hXl])|((first|refine sC ?_|refine sH ?_|refine sI ?_|refine sJ ?_);try simp only [jk,jl,jm,jn,if_true,if_false,jb])|refine sD ?_|refine sE ?_|refine sF rfl ?_|refine sG rfl ?_)
    refine SW.lpg (fun k:Nat=>⟨[(1,.ptr 0 1 0 0),(4,.sl 1 (4+8 * xs.length+8 * k) 0 (4+8 * xs.length+8 * k)),(8,.int .i64 k)],[Ob.arr 123 2 [.agg [.vec c 2 X,.vec c' 1 Y]],.arr 5 1 (G k)]⟩) (fun k=>xs.length - k) (fun k=>k≤xs.length∧(ks.length ≠ 0→k = 0)) 0 (by omega) (.of rfl (by simp [agree,lk])) ?_
    rintro k ⟨hk1,hk2⟩
    have l2:=hGl k hk1 hk2
    obtain ⟨q,hq⟩:∃ q,q = 4+8 * xs.length+8 * k:=⟨_,rfl⟩
    by_cases hgo:k < xs.length∧ks.length = 0
    · obtain ⟨hlt,hks0⟩:=hgo
      have e1:decide ((k:Int) < ((xs.length:Nat):Int)) = true:=decide_eq_true (by omega)
      have e5:(((ks.length:Nat):Int) == 0) = true:=by rw [hks0]; rfl
      have e3:(0≤(k:Int)∧(k:Int) < ((xs.length:Nat):Int)):=by omega
      have h1:=hG1 k hlt hks0
      obtain ⟨p,hp⟩:∃ p,p = xs[k]'hlt:=⟨_,rfl⟩
      have hpv:=hv p (by rw [hp]; exact List.getElem_mem hlt)
      rw [← hp] at h1
      obtain ⟨p1,p2⟩:=p
      have hput:=refPut8_ok p2 hpv.2
      have e4:X[k]?.getD .undef = .agg [.int .u64 p1,.int .u64 p2]:=by rw [hX]; simp [hlt,eT,← hp]
      have w1:IntKind.i64.wrap ((k:Int)+1) = ((k+1:Nat):Int):=wi (by omega) (by omega)
      have a1:=aB p2 8
      have l1:=lB p2 8
      obtain ⟨PB,hPB⟩:∃ PB,PB = (putB p2 8).map eB:=⟨_,rfl⟩
      simp only [← hPB] at hput a1 l1 h1
      rw [← hq] at l2 ⊢
      have hcap:(q+8≤140737488355328) = True:=eq_true (by omega)
      have hcap2:(q≤140737488355320) = True:=eq_true (by omega)
      repeat (first|((first|refine sA hL hn rfl ?_|refine sB hL hn rfl ?_);simp only [go_sem,jf,jh,ji,ja,jb,reduceIte,jc,jg,jd,je,reduceCtorEq,e1,hXl,hYl,e5,e3,e4])|((first|refine sC ?_|refine sH ?_|refine sI ?_|refine sJ ?_);try simp only [jk,jl,jm,jn,if_true,if_false,jb])|refine sD ?_|refine sE ?_|refine sF rfl ?_|refine sG rfl ?_)
      refine sK hP hL hn rfl rfl (hput _) rfl rfl rfl rfl ?_; simp (maxSteps:=2000000) only [go_sem,jf,jh,ji,ja,jb,reduceIte,jc,jg,jd,je,reduceCtorEq,appDV,a1,l1,l2,hcap,hcap2,h1,w1]
      repeat (first|((first|refine sA hL hn rfl ?_|refine sB hL hn rfl ?_);simp only [go_sem,jf,jh,ji,ja,jb,reduceIte,jc,jg,jd,je,reduceCtorEq,appDV,a1,l1,l2,hcap,hcap2,h1,w1])|((first|refine sC ?_|refine sH ?_|refine sI ?_|refine sJ ?_);try simp only [jk,jl,jm,jn,if_true,if_false,jb])|refine sD ?_|refine sE ?_|refine sF rfl ?_|refine sG rfl ?_)
      exact Lp.nextg (k+1) ⟨by omega,fun h=>absurd hks0 h⟩ (by omega) (.of rfl (by simp [agree,lk]; omega))
    have hqM:q = M+4 * 0:=by
      rw [hq,hM]
      by_cases e:ks.length = 0
      · rw [if_pos e]; omega
      · rw [if_neg e,hk2 e]
    rw [hGH k (fun h=>by omega),← hq,hqM]
    have hend:(decide ((k:Int) < ((xs.length:Nat):Int)) = true∧(((ks.length:Nat):Int) == 0) = false)∨decide ((k:Int) < ((xs.length:Nat):Int)) = false:=by
      by_cases h:k < xs.length
      · exact .inl ⟨decide_eq_true (by omega),beq_eq_false_iff_ne.2 (by omega)⟩
      · exact .inr (decide_eq_false (by omega))
    have wz:IntKind.i64.wrap (60 - ((B.length:Nat):Int)) = ((60 - B.length:Nat):Int):=wi (by omega) (by omega)
    obtain ⟨Bd,hBd⟩:∃ Bd,Bd = B.map eB:=⟨_,rfl⟩
    have hBdl:Bd.length = B.length:=by rw [hBd,List.length_map]
    have hBM:B.length = M+4 * ks.length:=by rw [← hHl ks.length (Nat.le_refl _),hHB,List.length_map]
    rw [← hBd] at hHB
    have z1:(0≤((60 - B.length:Nat):Int)) = True:=eq_true (by omega)
    have hcz:List.replicate (60 - B.length) (DV.int .u8 0) = (List.replicate (60 - B.length) (0:UInt8)).map eB:=by simp [eB]
    obtain ⟨Q,hQ⟩:∃ Q,Q = List.replicate (60 - B.length) (DV.int .u8 0):=⟨_,rfl⟩
    have hQl:Q.length = 60 - B.length:=by rw [hQ,List.length_replicate]
    have aQ:(Q.all fun y=>y.cells.all DV.one) = true:=by rw [hQ,hcz]; exact all_eB _
    have hrep:=hQ.symm
    simp only [DV.cells] at aQ
    have z2':(((60 - B.length:Nat):Int) * ((1:Nat):Int)≤1073741824) = True:=eq_true (by omega)
    have hZe:Bd ++ Q = Zd:=by rw [hZd,hZ,hBd,hQ,hcz]; simp
    have hcl:B.length+(60 - B.length) = 60:=by omega
    have gz:(60 - B.length = 0) = False:=eq_false (by omega)
    rcases hend with ⟨q1,q2⟩ | q1
    rotate_left
    repeat (first|((first|refine sA hL hn rfl ?_|refine sB hL hn rfl ?_);simp only [go_sem,jf,jh,ji,ja,jb,reduceIte,jc,jg,jd,je,reduceCtorEq,q1,hXl])|((first|refine sC ?_|refine sH ?_|refine sI ?_|refine sJ ?_);try simp only [jk,jl,jm,jn,if_true,if_false,jb])|refine sD ?_|refine sE ?_|refine sF rfl ?_|refine sG rfl ?_)
    rotate_left
    repeat (first|((first|refine sA hL hn rfl ?_|refine sB hL hn rfl ?_);simp only [go_sem,jf,jh,ji,ja,jb,reduceIte,jc,jg,jd,je,reduceCtorEq,q1,q2,hXl,hYl])|((first|refine sC ?_|refine sH ?_|refine sI ?_|refine sJ ?_);try simp only [jk,jl,jm,jn,if_true,if_false,jb])|refine sD ?_|refine sE ?_|refine sF rfl ?_|refine sG rfl ?_)
    all_goals
      refine SW.lpg (fun k:Nat=>⟨[(1,.ptr 0 1 0 0),(4,.sl 1 (M+4 * k) 0 (M+4 * k)),(11,.int .i64 k)],[Ob.arr 123 2 [.agg [.vec c 2 X,.vec c' 1 Y]],.arr 5 1 (H k)]⟩) (fun k=>ks.length - k) (fun k=>k≤ks.length) 0 (by omega) (.of rfl (by simp [agree,lk])) ?_
      intro k hk1
      by_cases hlt:k < ks.length
      · have e1:decide ((k:Int) < ((ks.length:Nat):Int)) = true:=decide_eq_true (by omega)
        have e3:(0≤(k:Int)∧(k:Int) < ((ks.length:Nat):Int)):=by omega
        have h1:=hH1 k hlt
        obtain ⟨p,hp⟩:∃ p,p = ks[k]'hlt:=⟨_,rfl⟩
        have hpv:=f4 p (by rw [hp]; exact List.getElem_mem hlt)
        rw [← hp] at h1
        have hput:=refPut4_ok p (by omega)
        have e4:Y[k]?.getD .undef = .int .i64 p:=by rw [hY]; simp [hlt,eI,← hp]
        have wu1:IntKind.u64.wrap p = p:=wu (by omega) rfl
        have w1:IntKind.i64.wrap ((k:Int)+1) = ((k+1:Nat):Int):=wi (by omega) (by omega)
        have a1:=aB p 4
        have l1:=lB p 4
        have l2:=hHl k hk1
        obtain ⟨PB,hPB⟩:∃ PB,PB = (putB p 4).map eB:=⟨_,rfl⟩
        simp only [← hPB] at hput a1 l1 h1
        obtain ⟨q,hq⟩:∃ q,q = M+4 * k:=⟨_,rfl⟩
        have hMb:M≤60:=by omega
        rw [← hq] at l2 ⊢
        have hcap:(q+4≤140737488355328) = True:=eq_true (by omega)
        have hcap2:(q≤140737488355324) = True:=eq_true (by omega)
        repeat (first|((first|refine sA hL hn rfl ?_|refine sB hL hn rfl ?_);simp only [go_sem,jf,jh,ji,ja,jb,reduceIte,jc,jg,jd,je,reduceCtorEq,e1,hYl,e3,e4,convDV,wu1])|((first|refine sC ?_|refine sH ?_|refine sI ?_|refine sJ ?_);try simp only [jk,jl,jm,jn,if_true,if_false,jb])|refine sD ?_|refine sE ?_|refine sF rfl ?_|refine sG rfl ?_)
        refine sK hP hL hn rfl rfl (hput _) rfl rfl rfl rfl ?_; simp (maxSteps:=2000000) only [go_sem,jf,jh,ji,ja,jb,reduceIte,jc,jg,jd,je,reduceCtorEq,appDV,a1,l1,l2,hcap,hcap2,h1,w1]
        repeat (first|((first|refine sA hL hn rfl ?_|refine sB hL hn rfl ?_);simp only [go_sem,jf,jh,ji,ja,jb,reduceIte,jc,jg,jd,je,reduceCtorEq,appDV,a1,l1,l2,hcap,hcap2,h1,w1])|((first|refine sC ?_|refine sH ?_|refine sI ?_|refine sJ ?_);try simp only [jk,jl,jm,jn,if_true,if_false,jb])|refine sD ?_|refine sE ?_|refine sF rfl ?_|refine sG rfl ?_)
        exact Lp.nextg (k+1) (by omega) (by omega) (.of rfl (by simp [agree,lk]; omega))
      · have e1:decide ((k:Int) < ((ks.length:Nat):Int)) = false:=decide_eq_false (by omega)
        obtain rfl:k = ks.length:=by omega
        rw [hHB,← hBM]
        repeat (first|((first|refine sA hL hn rfl ?_|refine sB hL hn rfl ?_);simp only [go_sem,jf,jh,ji,ja,jb,reduceIte,jc,jg,jd,je,reduceCtorEq,e1,hYl,wz,hBdl,appDV,hrep,aQ,hQl,z1,z2',Int.toNat_natCast,hZe,hcl,gz])|((first|refine sC ?_|refine sH ?_|refine sI ?_|refine sJ ?_);try simp only [jk,jl,jm,jn,if_true,if_false,jb])|refine sD ?_|refine sE ?_|refine sF rfl ?_|refine sG rfl ?_)
        refine sK hP hL hn rfl rfl (hsealO _ rfl) rfl rfl rfl rfl ?_; simp (maxSteps:=2000000) only [go_sem,jf,jh,ji,ja,jb,reduceIte,jc,jg,jd,je,reduceCtorEq]
        repeat (first|((first|refine sA hL hn rfl ?_|refine sB hL hn rfl ?_);simp only [go_sem,jf,jh,ji,ja,jb,reduceIte,jc,jg,jd,je,reduceCtorEq])|((first|refine sC ?_|refine sH ?_|refine sI ?_|refine sJ ?_);try simp only [jk,jl,jm,jn,if_true,if_false,jb])|refine sD ?_|refine sE ?_|refine sF rfl ?_|refine sG rfl ?_)
        exact ⟨_,_,_,Ghost.refl _ _,rfl,GhostV.refl _ _ _,rfl⟩
end Go.VL
end
section
set_option maxRecDepth 10000
set_option maxHeartbeats 4000000
namespace Go.VL
open Go Go.Proofs
open Nat renaming reduceAdd → ja, reduceEqDiff → jb, reduceSub → jc, reduceMul → jd, reduceLeDiff → je, reduceBEq → jf, reduceLT → jg
open Int renaming reduceLT → jh, reduceLE → ji
open Go.VL renaming thenK → jk, blockK → jl, loopK → jm, loopG → jn
theorem told_ok (c:Nat) (bs:List UInt8) (hl:bs.length = 60) (hk12:kdF bs = 1∨kdF bs = 2) (σ:List Ob):Ok Try.prog 73 [.vec c 1 (bs.map eB)] σ (.ret (nodeD 0 0 (readF bs).1 (readF bs).2)) σ:=by
  obtain ⟨m,hmc⟩:∃ m,m = cntF bs:=⟨_,rfl⟩
  have hm3:m≤3:=by rw [hmc]; unfold cntF; omega
  have hget:=fun A S h=>refGet_ok c bs A S h
  have hlX:=low_bytes 0 c bs
  obtain ⟨X,hX⟩:∃ X,X = bs.map eB:=⟨_,rfl⟩
  have hXl:X.length = 60:=by rw [hX,List.length_map,hl]
  obtain ⟨x0,hx0⟩:∃ x,x = bs.getD 0 0:=⟨_,rfl⟩
  obtain ⟨x1,hx1⟩:∃ x,x = bs.getD 1 0:=⟨_,rfl⟩
  have g0:X[0]?.getD .undef = .int .u8 (x0.toNat:Int):=by rw [hX,hx0]; simp [eB,List.getD_eq_getElem?_getD,show 0 < bs.length by omega]
  have g1:X[1]?.getD .undef = .int .u8 (x1.toNat:Int):=by rw [hX,hx1]; simp [eB,List.getD_eq_getElem?_getD,show 1 < bs.length by omega]
  have hb0:=x0.toNat_lt
  have hb1:=x1.toNat_lt
  obtain ⟨kd,hkd⟩:∃ kd,kd = x0.toNat:=⟨_,rfl⟩
  obtain ⟨m1,hm1⟩:∃ m,m = x1.toNat:=⟨_,rfl⟩
  have hm':m = min m1 3:=by rw [hmc,hm1,hx1]; rfl
  have hkF:kdF bs = kd:=by rw [hkd,hx0]; rfl
  rw [← hkd] at g0
  rw [← hm1] at g1
  rw [hkF] at hk12
  have mm:mn (m1:Int) 3 = (m:Int):=by unfold mn; split <;> omega
  have wmm:IntKind.i64.wrap (m:Int) = (m:Int):=wi (by omega) rfl
  obtain ⟨KY,hKY⟩:∃ KY:Nat→Int,KY = keyF bs:=⟨_,rfl⟩
  obtain ⟨VL,hVL⟩:∃ VL:Nat→Int,VL = fun i=>if kd = 1 then valF bs m i else 0:=⟨_,rfl⟩
  obtain ⟨KD,hKD⟩:∃ KD:Nat→Int,KD = kidF bs m:=⟨_,rfl⟩
  obtain ⟨M,hM⟩:∃ M,M = if kd = 1 then 0 else m+1:=⟨_,rfl⟩
  have hread:readF bs = ((List.range m).map fun i=>(KY i,VL i),(List.range M).map KD):=by
    unfold readF
    rw [hkF,← hmc,hKY,hVL,hKD,hM]
    by_cases h:kd = 1
    · simp [h]
    · simp [h]
  obtain ⟨IT,hIT⟩:∃ IT:Nat→List DV,IT = fun k=>((List.range k).map fun i=>(KY i,VL i)).map eT:=⟨_,rfl⟩
  obtain ⟨KL,hKL⟩:∃ KL:Nat→List DV,KL = fun k=>((List.range k).map KD).map eI:=⟨_,rfl⟩
  have hITl:∀ k,(IT k).length = k:=fun k=>by rw [hIT]; simp
  have hKLl:∀ k,(KL k).length = k:=fun k=>by rw [hKL]; simp
  have hITs:∀ k,IT k ++ [.agg [.int .u64 (KY k),.int .u64 (VL k)]] = IT (k+1):=fun k=>by rw [hIT]; simp [List.range_succ,eT]
  have hKLs:∀ k,KL k ++ [.int .i64 (KD k)] = KL (k+1):=fun k=>by rw [hKL]; simp [List.range_succ,eI]
  have hgK:∀ k,k < m→∀ σ,Ok Try.prog 85 [.vec c 1 X,.int .i64 ((4+8 * k:Nat):Int),.int .i64 8] σ (.ret (.tup [.int .u64 (KY k),.int .i64 0])) σ:=fun k hk σ=>by
    rw [hX,hKY]; exact hget (4+8 * k) 8 (by omega) σ
  have hgV:∀ k,k < m→kd = 1→∀ σ,Ok Try.prog 85 [.vec c 1 X,.int .i64 ((4+8 * m+8 * k:Nat):Int),.int .i64 8] σ (.ret (.tup [.int .u64 (VL k),.int .i64 0])) σ:=fun k hk h σ=>by
    rw [hX,hVL]; simp only [if_pos h]; exact hget (4+8 * m+8 * k) 8 (by omega) σ
  have hgD:∀ k,k≤m→∀ σ,Ok Try.prog 85 [.vec c 1 X,.int .i64 ((4+8 * m+4 * k:Nat):Int),.int .i64 4] σ (.ret (.tup [.int .u64 (numF bs (4+8 * m+4 * k) 4),.int .i64 0])) σ:=fun k hk σ=>by
    rw [hX]; exact hget (4+8 * m+4 * k) 4 (by omega) σ
  rw [← hX] at hlX ⊢
  rw [hread]
  obtain ⟨R,hR⟩:∃ R,R = nodeD 0 0 ((List.range m).map fun i=>(KY i,VL i)) ((List.range M).map KD):=⟨_,rfl⟩
  rw [← hR]
  refine (OkE.thaw (c:=0) (R:=fun D=>D = R) ?_ (by simpa using hlX) σ).ok fun o σ' ⟨e,D',e1,e2⟩=>by subst e2; exact ⟨e1,e⟩
  have z61:((1:Int) < ((60:Nat):Int)) = True:=by decide
  have z60:((0:Int) < ((60:Nat):Int)) = True:=by decide
  have t0:Int.toNat 0 = 0:=rfl
  have t1:Int.toNat 1 = 1:=rfl
  refine OkE.of_body layOk Try.func73 rfl (by decide) (by simp [Try.ntmps73]) fun C hP hn hσ hfix hdd=>?_
  rw [show Try.f73.ntmps = 84 from rfl] at hn
  have hL:LayOk C.P L:=hP ▸ layOk
  have hm:C.P.follows .mixedOrders = true:=hP ▸ mixed
  repeat (first|((first|refine sA hL hn rfl ?_|refine sB hL hn rfl ?_);simp only [go_sem,jf,jh,ji,ja,jb,reduceIte,jc,jg,jd,je,reduceCtorEq,hXl,z61,t1,g1,mm,convDV,wmm])|((first|refine sC ?_|refine sH ?_|refine sI ?_|refine sJ ?_);try simp only [jk,jl,jm,jn,if_true,if_false,jb])|refine sD ?_|refine sE ?_|refine sF rfl ?_|refine sG rfl ?_)
  refine SW.ghost (Ghost.newNilIn 1 0 27 2 (t:=123) (k:=2) (cs:=[.nils,.nils]) rfl rfl) ?_
  refine SW.ghost (Ghost.newNilIn 1 1 3 1 (t:=123) (k:=2) (cs:=[.sl 2 0 0 0,.nils]) rfl rfl) ?_
  refine SW.lpg (fun x:Nat × List Ob=>⟨[(0,.vec c 1 X),(2,.ptr 0 1 0 0),(3,.ptr 1 1 0 0),(4,.int .i64 m),(5,.int .i64 x.1)],Ob.arr 123 2 [.agg [.nils,.nils]] :: .arr 123 2 [.agg [.sl 2 x.1 0 x.1,.sl 3 0 0 0]] :: .arr 27 2 (IT x.1) :: .arr 3 1 [] :: x.2⟩) (fun x=>m - x.1) (fun x=>x.1≤m) (0,[]) (by simp) (.of (by rw [hIT]; rfl) (by simp [agree,lk])) ?_
  rintro ⟨k,T⟩ hk
  simp only at hk
  by_cases hlt:k < m
  · have e1:decide ((k:Int) < (m:Int)) = true:=decide_eq_true (by omega)
    have w1:IntKind.i64.wrap ((k:Int)+1) = ((k+1:Nat):Int):=wi (by omega) (by omega)
    have w2:IntKind.i64.wrap (8 * (k:Int)) = ((8 * k:Nat):Int):=wi (by omega) (by omega)
    have w3:IntKind.i64.wrap (4+((8 * k:Nat):Int)) = ((4+8 * k:Nat):Int):=wi (by omega) (by omega)
    have w4:IntKind.i64.wrap (8 * (m:Int)) = ((8 * m:Nat):Int):=wi (by omega) (by omega)
    have w5:IntKind.i64.wrap (4+((8 * m:Nat):Int)) = ((4+8 * m:Nat):Int):=wi (by omega) (by omega)
    have w6:IntKind.i64.wrap (((4+8 * m:Nat):Int)+((8 * k:Nat):Int)) = ((4+8 * m+8 * k:Nat):Int):=wi (by omega) (by omega)
    have hK:=hgK k hlt
    have hV:=hgV k hlt
    have l1:=hITl k
    have s1:=hITs k
    have hcap:((k+1) * 16≤140737488355328) = True:=eq_true (by omega)
    obtain ⟨p1,hp1⟩:∃ p,p = 8 * k:=⟨_,rfl⟩
    obtain ⟨p3,hp3⟩:∃ p,p = 8 * m:=⟨_,rfl⟩
    simp only [← hp1,← hp3] at hK hV w2 w3 w4 w5 w6
    obtain ⟨p2,hp2⟩:∃ p,p = 4+p1:=⟨_,rfl⟩
    obtain ⟨p4,hp4⟩:∃ p,p = 4+p3:=⟨_,rfl⟩
    simp only [← hp2,← hp4] at hK hV w3 w5 w6
    obtain ⟨p5,hp5⟩:∃ p,p = p4+p1:=⟨_,rfl⟩
    simp only [← hp5] at hV w6
    obtain ⟨ky,hky⟩:∃ v,v = KY k:=⟨_,rfl⟩
    obtain ⟨vl,hvl⟩:∃ v,v = VL k:=⟨_,rfl⟩
    rw [← hky,← hvl] at s1
    rw [← hky] at hK
    rw [← hvl] at hV
    have gT:∀ x:Ob,(T ++ [x])[T.length]? = some x:=fun x=>by simp
    have sT:∀ x y:Ob,(T ++ [x]).set T.length y = T ++ [y]:=fun x y=>by simp
    have gT2:∀ x y:Ob,(T ++ [x,y])[T.length]? = some x:=fun x y=>by simp
    have gT3:∀ x y:Ob,(T ++ [x,y])[T.length+1]? = some y:=fun x y=>by simp
    have hbd:buildDV L 27 [(0,.int .u64 ky)] = some (.agg [.int .u64 ky,.int .u64 0]):=rfl
    repeat (first|((first|refine sA hL hn rfl ?_|refine sB hL hn rfl ?_);simp only [go_sem,jf,jh,ji,ja,jb,reduceIte,jc,jg,jd,je,reduceCtorEq,e1,w2,w3])|((first|refine sC ?_|refine sH ?_|refine sI ?_|refine sJ ?_);try simp only [jk,jl,jm,jn,if_true,if_false,jb])|refine sD ?_|refine sE ?_|refine sF rfl ?_|refine sG rfl ?_)
    refine sK hP hL hn rfl rfl (hK _) rfl rfl rfl rfl ?_; simp (maxSteps:=2000000) only [go_sem,jf,jh,ji,ja,jb,reduceIte,jc,jg,jd,je,reduceCtorEq,hbd,gT,sT]
    rcases hk12 with hk1 | hk2
    · have d1:((kd:Int) == 1) = true:=by rw [hk1]; rfl
      repeat (first|((first|refine sA hL hn rfl ?_|refine sB hL hn rfl ?_);simp only [go_sem,jf,jh,ji,ja,jb,reduceIte,jc,jg,jd,je,reduceCtorEq,hbd,gT,sT,hXl,z60,t0,g0,d1,w4,w5,w2,w6])|((first|refine sC ?_|refine sH ?_|refine sI ?_|refine sJ ?_);try simp only [jk,jl,jm,jn,if_true,if_false,jb])|refine sD ?_|refine sE ?_|refine sF rfl ?_|refine sG rfl ?_)
      refine sK hP hL hn rfl rfl (hV hk1 _) rfl rfl rfl rfl ?_; simp (maxSteps:=2000000) only [go_sem,jf,jh,ji,ja,jb,reduceIte,jc,jg,jd,je,reduceCtorEq,gT,sT]
      repeat (first|((first|refine sA hL hn rfl ?_|refine sB hL hn rfl ?_);simp only [go_sem,jf,jh,ji,ja,jb,reduceIte,jc,jg,jd,je,reduceCtorEq,gT,sT,gT2,gT3,appDV,l1,s1,hcap,w1])|((first|refine sC ?_|refine sH ?_|refine sI ?_|refine sJ ?_);try simp only [jk,jl,jm,jn,if_true,if_false,jb])|refine sD ?_|refine sE ?_|refine sF rfl ?_|refine sG rfl ?_)
      exact Lp.nextg (k+1,T ++ [.arr 27 2 [.agg [.int .u64 ky,.int .u64 vl]],.arr 27 2 [.agg [.int .u64 ky,.int .u64 vl]]]) (by show k+1≤m; omega) (by show m - (k+1) < _; omega) (.of (by simp [List.headD]) (by simp [agree,lk]))
    · have d1:((kd:Int) == 1) = false:=by rw [hk2]; rfl
      have hv0:vl = 0:=by rw [hvl,hVL]; simp [show ¬ kd = 1 by omega]
      rw [hv0] at s1
      repeat (first|((first|refine sA hL hn rfl ?_|refine sB hL hn rfl ?_);simp only [go_sem,jf,jh,ji,ja,jb,reduceIte,jc,jg,jd,je,reduceCtorEq,hbd,gT,sT,hXl,z60,t0,g0,d1,gT2,gT3,appDV,l1,s1,hcap,w1])|((first|refine sC ?_|refine sH ?_|refine sI ?_|refine sJ ?_);try simp only [jk,jl,jm,jn,if_true,if_false,jb])|refine sD ?_|refine sE ?_|refine sF rfl ?_|refine sG rfl ?_)
      exact Lp.nextg (k+1,T ++ [.arr 27 2 [.agg [.int .u64 ky,.int .u64 0]],.arr 27 2 [.agg [.int .u64 ky,.int .u64 0]]]) (by show k+1≤m; omega) (by show m - (k+1) < _; omega) (.of (by simp) (by simp [agree,lk]))
  have e1:decide ((k:Int) < (m:Int)) = false:=decide_eq_false (by omega)
  obtain rfl:k = m:=by omega
  simp only
  repeat (first|((first|refine sA hL hn rfl ?_|refine sB hL hn rfl ?_);simp only [go_sem,jf,jh,ji,ja,jb,reduceIte,jc,jg,jd,je,reduceCtorEq,e1])|((first|refine sC ?_|refine sH ?_|refine sI ?_|refine sJ ?_);try simp only [jk,jl,jm,jn,if_true,if_false,jb])|refine sD ?_|refine sE ?_|refine sF rfl ?_|refine sG rfl ?_)
  refine SW.lpg (fun x:Nat × List Ob=>⟨[(0,.vec c 1 X),(2,.ptr 0 1 0 0),(3,.ptr 1 1 0 0),(4,.int .i64 k),(9,.int .i64 x.1)],Ob.arr 123 2 [.agg [.nils,.nils]] :: .arr 123 2 [.agg [.sl 2 k 0 k,.sl 3 x.1 0 x.1]] :: .arr 27 2 (IT k) :: .arr 3 1 (KL x.1) :: x.2⟩) (fun x=>M - x.1) (fun x=>x.1≤M) (0,T) (by simp) (.of (by rw [hKL]; rfl) (by simp [agree,lk])) ?_
  rintro ⟨j,T⟩ hj
  simp only at hj
  by_cases hlt:j < M
  · have hkd2:kd = 2∧j≤k:=by
      rw [hM] at hlt
      split at hlt
      · omega
      · omega
    obtain ⟨hk2,hjm⟩:=hkd2
    have e1:decide ((j:Int)≤(k:Int)) = true:=decide_eq_true (by omega)
    have d1:((kd:Int) == 2) = true:=by rw [hk2]; rfl
    have w1:IntKind.i64.wrap ((j:Int)+1) = ((j+1:Nat):Int):=wi (by omega) (by omega)
    have w2:IntKind.i64.wrap (4 * (j:Int)) = ((4 * j:Nat):Int):=wi (by omega) (by omega)
    have w4:IntKind.i64.wrap (8 * (k:Int)) = ((8 * k:Nat):Int):=wi (by omega) (by omega)
    have w5:IntKind.i64.wrap (4+((8 * k:Nat):Int)) = ((4+8 * k:Nat):Int):=wi (by omega) (by omega)
    have w6:IntKind.i64.wrap (((4+8 * k:Nat):Int)+((4 * j:Nat):Int)) = ((4+8 * k+4 * j:Nat):Int):=wi (by omega) (by omega)
    have hD:=hgD j hjm
    have l1:=hKLl j
    have s1:=hKLs j
    have wk:IntKind.i64.wrap (numF bs (4+8 * k+4 * j) 4) = KD j:=by rw [hKD]; rfl
    obtain ⟨nv,hnv⟩:∃ nv,nv = numF bs (4+8 * k+4 * j) 4:=⟨_,rfl⟩
    rw [← hnv] at wk
    simp only [← hnv] at hD
    have hcap:((j+1) * 8≤140737488355328) = True:=eq_true (by omega)
    obtain ⟨p1,hp1⟩:∃ p,p = 4 * j:=⟨_,rfl⟩
    obtain ⟨p3,hp3⟩:∃ p,p = 8 * k:=⟨_,rfl⟩
    simp only [← hp1,← hp3] at hD w2 w4 w5 w6
    obtain ⟨p4,hp4⟩:∃ p,p = 4+p3:=⟨_,rfl⟩
    simp only [← hp4] at hD w5 w6
    obtain ⟨p5,hp5⟩:∃ p,p = p4+p1:=⟨_,rfl⟩
    simp only [← hp5] at hD w6
    have gT:∀ x:Ob,(T ++ [x])[T.length]? = some x:=fun x=>by simp
    repeat (first|((first|refine sA hL hn rfl ?_|refine sB hL hn rfl ?_);simp only [go_sem,jf,jh,ji,ja,jb,reduceIte,jc,jg,jd,je,reduceCtorEq,e1,hXl,z60,t0,g0,d1,w4,w5,w2,w6])|((first|refine sC ?_|refine sH ?_|refine sI ?_|refine sJ ?_);try simp only [jk,jl,jm,jn,if_true,if_false,jb])|refine sD ?_|refine sE ?_|refine sF rfl ?_|refine sG rfl ?_)
    refine sK hP hL hn rfl rfl (hD _) rfl rfl rfl rfl ?_; simp (maxSteps:=2000000) only [go_sem,jf,jh,ji,ja,jb,reduceIte,jc,jg,jd,je,reduceCtorEq,convDV,wk]
    repeat (first|((first|refine sA hL hn rfl ?_|refine sB hL hn rfl ?_);simp only [go_sem,jf,jh,ji,ja,jb,reduceIte,jc,jg,jd,je,reduceCtorEq,convDV,wk,gT,appDV,l1,s1,hcap,w1])|((first|refine sC ?_|refine sH ?_|refine sI ?_|refine sJ ?_);try simp only [jk,jl,jm,jn,if_true,if_false,jb])|refine sD ?_|refine sE ?_|refine sF rfl ?_|refine sG rfl ?_)
    exact Lp.nextg (j+1,T ++ [.arr 3 1 [.int .i64 (KD j)]]) (by show j+1≤M; omega) (by show M - (j+1) < _; omega) (.of (by simp) (by simp [agree,lk]))
  · obtain rfl:j = M:=by omega
    have hend:(decide ((j:Int)≤(k:Int)) = true∧((kd:Int) == 2) = false)∨decide ((j:Int)≤(k:Int)) = false:=by
      rcases hk12 with h | h
      · left
        rw [hM,if_pos h,h]
        exact ⟨decide_eq_true (by omega),rfl⟩
      · right
        rw [hM,if_neg (by omega)]
        exact decide_eq_false (by omega)
    have hz:∀ (A B:Nat) (T:List Ob),A = k→B = j→Fz (Ob.arr 123 2 [.agg [.sl 2 k 0 k,.sl 3 j 0 j]] :: .arr 123 2 [.agg [.sl 2 k 0 k,.sl 3 j 0 j]] :: .arr 27 2 (IT k) :: .arr 3 1 (KL j) :: T) 0 (.agg [.sl 2 A 0 A,.sl 3 B 0 B]) R:=by
      rintro A B T rfl rfl
      rw [hR]
      unfold nodeD
      refine .agg2 ?_ ?_
      · have:=Fz.list (O:=Ob.arr 123 2 [.agg [.sl 2 A 0 A,.sl 3 B 0 B]] :: .arr 123 2 [.agg [.sl 2 A 0 A,.sl 3 B 0 B]] :: .arr 27 2 (IT A) :: .arr 3 1 (KL B) :: T) (c:=0) (id:=2) (t:=27) (k:=2) (l:=(List.range A).map fun i=>(KY i,VL i)) eT (low_eT 0) (by rw [hIT]; rfl)
        simpa using this
      · have:=Fz.list (O:=Ob.arr 123 2 [.agg [.sl 2 A 0 A,.sl 3 B 0 B]] :: .arr 123 2 [.agg [.sl 2 A 0 A,.sl 3 B 0 B]] :: .arr 27 2 (IT A) :: .arr 3 1 (KL B) :: T) (c:=0) (id:=3) (t:=3) (k:=1) (l:=(List.range B).map KD) eI (low_eI 0) (by rw [hKL]; rfl)
        simpa using this
    simp only
    rcases hend with ⟨q1,q2⟩ | q1
    · repeat (first|((first|refine sA hL hn rfl ?_|refine sB hL hn rfl ?_);simp only [go_sem,jf,jh,ji,ja,jb,reduceIte,jc,jg,jd,je,reduceCtorEq,q1,hXl,z60,t0,g0,q2])|((first|refine sC ?_|refine sH ?_|refine sI ?_|refine sJ ?_);try simp only [jk,jl,jm,jn,if_true,if_false,jb])|refine sD ?_|refine sE ?_|refine sF rfl ?_|refine sG rfl ?_)
      refine ⟨_,_,?_,_,(.agg [.sl 2 k 0 k,.sl 3 j 0 j]),_,Ghost.refl _ _,?_,GhostV.refl _ _ _,rfl⟩
      rotate_left
      show resDV L _ [Go.ResultVar.cell 2 123] = _
      simp only [resDV,resL,resDV1,go_sem,jf,jh,ji,ja,jb,reduceIte,jc,jg,jd,je,reduceCtorEq]
      exact ⟨_,R,rfl,hz k j _ rfl rfl,rfl⟩
    · repeat (first|((first|refine sA hL hn rfl ?_|refine sB hL hn rfl ?_);simp only [go_sem,jf,jh,ji,ja,jb,reduceIte,jc,jg,jd,je,reduceCtorEq,q1])|((first|refine sC ?_|refine sH ?_|refine sI ?_|refine sJ ?_);try simp only [jk,jl,jm,jn,if_true,if_false,jb])|refine sD ?_|refine sE ?_|refine sF rfl ?_|refine sG rfl ?_)
      refine ⟨_,_,?_,_,(.agg [.sl 2 k 0 k,.sl 3 j 0 j]),_,Ghost.refl _ _,?_,GhostV.refl _ _ _,rfl⟩
      rotate_left
      show resDV L _ [Go.ResultVar.cell 2 123] = _
      simp only [resDV,resL,resDV1,go_sem,jf,jh,ji,ja,jb,reduceIte,jc,jg,jd,je,reduceCtorEq]
      exact ⟨_,R,rfl,hz k j _ rfl rfl,rfl⟩
end Go.VL
end
section
set_option maxRecDepth 10000
set_option maxHeartbeats 4000000
namespace Go.VL
open Go Go.Proofs
open Nat renaming reduceAdd → ja, reduceEqDiff → jb, reduceSub → jc, reduceMul → jd, reduceLeDiff → je, reduceBEq → jf, reduceLT → jg
open Int renaming reduceLT → jh, reduceLE → ji
open Go.VL renaming thenK → jk, blockK → jl, loopK → jm, loopG → jn
theorem numF_bound (bs:List UInt8) (A S:Nat) (hS:S≤8):0≤numF bs A S∧numF bs A S < 18446744073709551616:=by
  have h:(getRes bs A S).1 < 256 ^ 8:=by
    unfold getRes
    split
    · simp
    · split
      · simp
      · split
        · simp
        · simp only
          have:=leNat_lt ((bs.drop (A:Int).toNat).take (S:Int).toNat)
          refine Nat.lt_of_lt_of_le this (Nat.pow_le_pow_right (by omega) ?_)
          rw [List.length_take]; omega
  have h8:(256:Nat) ^ 8 = 18446744073709551616:=by decide
  unfold numF
  omega
theorem readF_items (bs:List UInt8):∀ x ∈ (readF bs).1,OkIt x:=by
  have hk:∀ i,0≤keyF bs i∧keyF bs i < 18446744073709551616:=fun i=>numF_bound bs _ 8 (by omega)
  intro x hx
  unfold readF at hx
  split at hx
  · obtain ⟨i,_,rfl⟩:=List.mem_map.1 hx
    exact ⟨hk i,numF_bound bs _ 8 (by omega)⟩
  · obtain ⟨i,_,rfl⟩:=List.mem_map.1 hx
    exact ⟨hk i,by simp⟩
theorem openF_two (bs:List UInt8):(openF bs).2 = 0∨(openF bs).2 = 21:=by
  unfold openF
  split
  · exact .inr rfl
  · exact .inl rfl
theorem refDecode_ok (c:Nat) (bs:List UInt8) (σ:List Ob):Ok Try.prog 62 [.vec c 1 (bs.map eB)] σ (.ret (.tup [nodeD 0 0 (decodeF bs).1.1 (decodeF bs).1.2,.int .i64 (decodeF bs).2])) σ:=by
  have hlX:=low_bytes 0 c bs
  have hbd:buildDV L 123 [] = some (.agg [.nils,.nils]):=rfl
  have hbad:∀ (O:List Ob) (e:Int),Fz O 0 (.tup [.agg [.nils,.nils],.int .i64 e]) (.tup [nodeD 0 0 [] [],.int .i64 e]):=fun O e=>.two (.agg2 .nil .nil) .int
  obtain ⟨R,hR⟩:∃ R,R = DV.tup [nodeD 0 0 (decodeF bs).1.1 (decodeF bs).1.2,.int .i64 (decodeF bs).2]:=⟨_,rfl⟩
  rw [← hR]
  refine (OkE.thaw (c:=0) (R:=fun D=>D = R) ?_ (by simpa using hlX) σ).ok fun o σ' ⟨e,D',e1,e2⟩=>by subst e2; exact ⟨e1,e⟩
  have fin:∀ (O:List Ob) (e:Int),decodeF bs = (([],[]),e)→∃ d D,Out.ret (.tup [.agg [.nils,.nils],.int .i64 e]) = .ret d∧Fz O 0 d D∧D = R:=by
    intro O e h
    refine ⟨_,_,rfl,hbad O e,?_⟩
    rw [hR,h]
  by_cases hl:bs.length ≠ 64
  · have hd:decodeF bs = (([],[]),8):=by unfold decodeF; rw [if_pos hl]
    have d1:(((bs.length:Nat):Int) != 64) = true:=bne_iff_ne.2 (by omega)
    refine OkE.of_body layOk Try.func62 rfl (by decide) (by simp [Try.ntmps62]) fun C hP hn hσ hfix hdd=>?_
    rw [show Try.f62.ntmps = 52 from rfl] at hn
    have hL:LayOk C.P L:=hP ▸ layOk
    have hm:C.P.follows .mixedOrders = true:=hP ▸ mixed
    repeat (first|((first|refine sA hL hn rfl ?_|refine sB hL hn rfl ?_);simp only [go_sem,jf,jh,ji,ja,jb,reduceIte,jc,jg,jd,je,reduceCtorEq,List.length_map,d1,hbd])|((first|refine sC ?_|refine sH ?_|refine sI ?_|refine sJ ?_);try simp only [jk,jl,jm,jn,if_true,if_false,jb])|refine sD ?_|refine sE ?_|refine sF rfl ?_|refine sG rfl ?_)
    refine ⟨_,_,?_,_,(.tup [.agg [.nils,.nils],.int .i64 8]),_,Ghost.refl _ _,?_,GhostV.refl _ _ _,rfl⟩
    rotate_left
    show resDV L _ [Go.ResultVar.cell 2 123,Go.ResultVar.tmp 3] = _
    simp only [resDV,resL,resDV1,go_sem,jf,jh,ji,ja,jb,reduceIte,jc,jg,jd,je,reduceCtorEq]
    exact fin _ 8 hd
  have hl:bs.length = 64:=by omega
  have d1:(((64:Nat):Int) != 64) = false:=rfl
  have hopen:=refOpen_ok c bs hl
  by_cases ho:(openF bs).2 ≠ 0
  · have ho21:=(openF_two bs).resolve_left ho
    have hd:decodeF bs = (([],[]),21):=by unfold decodeF; rw [if_neg (by omega),if_pos ho,ho21]
    obtain ⟨P,hP'⟩:∃ P,P = ((openF bs).1.map eB):=⟨_,rfl⟩
    rw [ho21,← hP'] at hopen
    obtain ⟨X,hX⟩:∃ X,X = bs.map eB:=⟨_,rfl⟩
    have hXl:X.length = 64:=by rw [hX,List.length_map,hl]
    rw [← hX] at hopen ⊢
    have d2:((21:Int) != 0) = true:=rfl
    refine OkE.of_body layOk Try.func62 rfl (by decide) (by simp [Try.ntmps62]) fun C hP hn hσ hfix hdd=>?_
    rw [show Try.f62.ntmps = 52 from rfl] at hn
    have hL:LayOk C.P L:=hP ▸ layOk
    have hm:C.P.follows .mixedOrders = true:=hP ▸ mixed
    repeat (first|((first|refine sA hL hn rfl ?_|refine sB hL hn rfl ?_);simp only [go_sem,jf,jh,ji,ja,jb,reduceIte,jc,jg,jd,je,reduceCtorEq,hXl,d1])|((first|refine sC ?_|refine sH ?_|refine sI ?_|refine sJ ?_);try simp only [jk,jl,jm,jn,if_true,if_false,jb])|refine sD ?_|refine sE ?_|refine sF rfl ?_|refine sG rfl ?_)
    refine sK hP hL hn rfl rfl (hopen _) rfl rfl rfl rfl ?_; simp (maxSteps:=2000000) only [go_sem,jf,jh,ji,ja,jb,reduceIte,jc,jg,jd,je,reduceCtorEq]
    repeat (first|((first|refine sA hL hn rfl ?_|refine sB hL hn rfl ?_);simp only [go_sem,jf,jh,ji,ja,jb,reduceIte,jc,jg,jd,je,reduceCtorEq,d2,hbd])|((first|refine sC ?_|refine sH ?_|refine sI ?_|refine sJ ?_);try simp only [jk,jl,jm,jn,if_true,if_false,jb])|refine sD ?_|refine sE ?_|refine sF rfl ?_|refine sG rfl ?_)
    refine ⟨_,_,?_,_,(.tup [.agg [.nils,.nils],.int .i64 21]),_,Ghost.refl _ _,?_,GhostV.refl _ _ _,rfl⟩
    rotate_left
    show resDV L _ [Go.ResultVar.cell 2 123,Go.ResultVar.tmp 3] = _
    simp only [resDV,resL,resDV1,go_sem,jf,jh,ji,ja,jb,reduceIte,jc,jg,jd,je,reduceCtorEq]
    exact fin _ 21 hd
  have ho:(openF bs).2 = 0:=by omega
  obtain ⟨xb,hxb⟩:∃ xb,xb = (openF bs).1:=⟨_,rfl⟩
  have hxl:xb.length = 60:=by rw [hxb,openF_len hl ho]; simp; omega
  rw [ho,← hxb] at hopen
  obtain ⟨Y,hY⟩:∃ Y,Y = xb.map eB:=⟨_,rfl⟩
  have hYl:Y.length = 60:=by rw [hY,List.length_map,hxl]
  obtain ⟨kd,hkd⟩:∃ kd,kd = kdF xb:=⟨_,rfl⟩
  have g0:Y[0]?.getD .undef = .int .u8 (kd:Int):=by rw [hY,hkd]; simp [kdF,eB,List.getD_eq_getElem?_getD,show 0 < xb.length by omega]
  have z60:((0:Int) < ((60:Nat):Int)) = True:=by decide
  have t0:Int.toNat 0 = 0:=rfl
  have d0:((0:Int) != 0) = false:=rfl
  obtain ⟨X,hX⟩:∃ X,X = bs.map eB:=⟨_,rfl⟩
  have hXl:X.length = 64:=by rw [hX,List.length_map,hl]
  by_cases hk:kd ≠ 1∧kd ≠ 2
  · have hd:decodeF bs = (([],[]),22):=by unfold decodeF; rw [if_neg (by omega),if_neg (by omega),← hxb,← hkd,if_pos hk]
    have d2:((kd:Int) != 1) = true:=bne_iff_ne.2 (by omega)
    have d3:((kd:Int) != 2) = true:=bne_iff_ne.2 (by omega)
    rw [← hX,← hY] at hopen
    rw [← hX]
    refine OkE.of_body layOk Try.func62 rfl (by decide) (by simp [Try.ntmps62]) fun C hP hn hσ hfix hdd=>?_
    rw [show Try.f62.ntmps = 52 from rfl] at hn
    have hL:LayOk C.P L:=hP ▸ layOk
    have hm:C.P.follows .mixedOrders = true:=hP ▸ mixed
    repeat (first|((first|refine sA hL hn rfl ?_|refine sB hL hn rfl ?_);simp only [go_sem,jf,jh,ji,ja,jb,reduceIte,jc,jg,jd,je,reduceCtorEq,hXl,d1])|((first|refine sC ?_|refine sH ?_|refine sI ?_|refine sJ ?_);try simp only [jk,jl,jm,jn,if_true,if_false,jb])|refine sD ?_|refine sE ?_|refine sF rfl ?_|refine sG rfl ?_)
    refine sK hP hL hn rfl rfl (hopen _) rfl rfl rfl rfl ?_; simp (maxSteps:=2000000) only [go_sem,jf,jh,ji,ja,jb,reduceIte,jc,jg,jd,je,reduceCtorEq]
    repeat (first|((first|refine sA hL hn rfl ?_|refine sB hL hn rfl ?_);simp only [go_sem,jf,jh,ji,ja,jb,reduceIte,jc,jg,jd,je,reduceCtorEq,d0,g0,hYl,z60,t0,d2,d3,hbd])|((first|refine sC ?_|refine sH ?_|refine sI ?_|refine sJ ?_);try simp only [jk,jl,jm,jn,if_true,if_false,jb])|refine sD ?_|refine sE ?_|refine sF rfl ?_|refine sG rfl ?_)
    refine ⟨_,_,?_,_,(.tup [.agg [.nils,.nils],.int .i64 22]),_,Ghost.refl _ _,?_,GhostV.refl _ _ _,rfl⟩
    rotate_left
    show resDV L _ [Go.ResultVar.cell 2 123,Go.ResultVar.tmp 3] = _
    simp only [resDV,resL,resDV1,go_sem,jf,jh,ji,ja,jb,reduceIte,jc,jg,jd,je,reduceCtorEq]
    exact fin _ 22 hd
  have hk':(((kd:Int) != 1) = false)∨((((kd:Int) != 1) = true)∧(((kd:Int) != 2) = false)):=by
    by_cases h:kd = 1
    · left; simp; omega
    · right; constructor <;> simp <;> omega
  have htold:=told_ok 0 xb hxl (by rw [← hkd]; omega)
  obtain ⟨n,hn'⟩:∃ n,n = readF xb:=⟨_,rfl⟩
  have hnl:=readF_len xb
  have hni:=readF_items xb
  have hde:decodeF bs = if (encodeF n.1 n.2).2 ≠ 0∨bs ≠ (encodeF n.1 n.2).1 then (([],[]),21) else (n,0):=by
    unfold decodeF
    rw [if_neg (by omega),if_neg (by omega),← hxb,← hkd,if_neg hk,← hn']
  rw [← hn'] at htold hnl hni
  obtain ⟨xs,ks⟩:=n
  simp only at htold hnl hde hni
  have henc:=refEncode_ok 0 0 xs ks (by omega) (by omega) hni
  obtain ⟨eb,ee⟩:∃ e,e = encodeF xs ks:=⟨_,rfl⟩
  rw [← ee] at henc hde
  obtain ⟨yb,ye⟩:=eb
  simp only at henc hde
  have ho':isOct L 5 = true:=rfl
  have oX:octs X = some bs:=by rw [hX]; exact octs_eB bs
  have oZ:octs (yb.map eB) = some yb:=octs_eB yb
  obtain ⟨Z,hZ⟩:∃ Z,Z = yb.map eB:=⟨_,rfl⟩
  have hlN:∀ m,Low m (nodeD 0 0 xs ks):=fun m=>low_node m 0 0 xs ks
  unfold nodeD at htold henc
  obtain ⟨A,hA⟩:∃ A,A = xs.map eT:=⟨_,rfl⟩
  obtain ⟨K,hK⟩:∃ K,K = ks.map eI:=⟨_,rfl⟩
  rw [← hX,← hY] at hopen
  rw [← hZ] at oZ
  rw [← hY,← hA,← hK] at htold
  rw [← hA,← hK,← hZ] at henc
  rw [← hX]
  refine OkE.of_body layOk Try.func62 rfl (by decide) (by simp [Try.ntmps62]) fun C hP hn hσ hfix hdd=>?_
  rw [show Try.f62.ntmps = 52 from rfl] at hn
  have hL:LayOk C.P L:=hP ▸ layOk
  have hm:C.P.follows .mixedOrders = true:=hP ▸ mixed
  repeat (first|((first|refine sA hL hn rfl ?_|refine sB hL hn rfl ?_);simp only [go_sem,jf,jh,ji,ja,jb,reduceIte,jc,jg,jd,je,reduceCtorEq,hXl,d1])|((first|refine sC ?_|refine sH ?_|refine sI ?_|refine sJ ?_);try simp only [jk,jl,jm,jn,if_true,if_false,jb])|refine sD ?_|refine sE ?_|refine sF rfl ?_|refine sG rfl ?_)
  refine sK hP hL hn rfl rfl (hopen _) rfl rfl rfl rfl ?_; simp (maxSteps:=2000000) only [go_sem,jf,jh,ji,ja,jb,reduceIte,jc,jg,jd,je,reduceCtorEq]
  rcases hk' with hk' | ⟨hk1,hk2⟩
  rotate_left
  repeat (first|((first|refine sA hL hn rfl ?_|refine sB hL hn rfl ?_);simp only [go_sem,jf,jh,ji,ja,jb,reduceIte,jc,jg,jd,je,reduceCtorEq,d0,g0,hYl,z60,t0,hk1,hk2])|((first|refine sC ?_|refine sH ?_|refine sI ?_|refine sJ ?_);try simp only [jk,jl,jm,jn,if_true,if_false,jb])|refine sD ?_|refine sE ?_|refine sF rfl ?_|refine sG rfl ?_)
  rotate_left
  repeat (first|((first|refine sA hL hn rfl ?_|refine sB hL hn rfl ?_);simp only [go_sem,jf,jh,ji,ja,jb,reduceIte,jc,jg,jd,je,reduceCtorEq,d0,g0,hYl,z60,t0,hk'])|((first|refine sC ?_|refine sH ?_|refine sI ?_|refine sJ ?_);try simp only [jk,jl,jm,jn,if_true,if_false,jb])|refine sD ?_|refine sE ?_|refine sF rfl ?_|refine sG rfl ?_)
  all_goals
    refine sK hP hL hn rfl rfl (htold _) rfl rfl rfl rfl ?_; simp (maxSteps:=2000000) only [go_sem,jf,jh,ji,ja,jb,reduceIte,jc,jg,jd,je,reduceCtorEq]
    repeat (first|((first|refine sA hL hn rfl ?_|refine sB hL hn rfl ?_);simp only [go_sem,jf,jh,ji,ja,jb,reduceIte,jc,jg,jd,je,reduceCtorEq])|((first|refine sC ?_|refine sH ?_|refine sI ?_|refine sJ ?_);try simp only [jk,jl,jm,jn,if_true,if_false,jb])|refine sD ?_|refine sE ?_|refine sF rfl ?_|refine sG rfl ?_)
    by_cases hy:ye = 0
    · have d4:(ye != 0) = false:=by simpa using hy
      refine sK hP hL hn rfl rfl (henc _) rfl rfl rfl rfl ?_; simp (maxSteps:=2000000) only [go_sem,jf,jh,ji,ja,jb,reduceIte,jc,jg,jd,je,reduceCtorEq]
      by_cases hq:bs = yb
      · have d5:eqB yb bs = true:=(eqB_iff _ _).2 hq.symm
        unfold eqB at d5
        repeat (first|((first|refine sA hL hn rfl ?_|refine sB hL hn rfl ?_);simp only [go_sem,jf,jh,ji,ja,jb,reduceIte,jc,jg,jd,je,reduceCtorEq,d4,oX,oZ,ho',binStr,d5])|((first|refine sC ?_|refine sH ?_|refine sI ?_|refine sJ ?_);try simp only [jk,jl,jm,jn,if_true,if_false,jb])|refine sD ?_|refine sE ?_|refine sF rfl ?_|refine sG rfl ?_)
        refine ⟨_,_,?_,_,(.tup [.agg [.vec 0 2 A,.vec 0 1 K],.int .i64 0]),_,Ghost.refl _ _,?_,GhostV.refl _ _ _,rfl⟩
        rotate_left
        show resDV L _ [Go.ResultVar.cell 2 123,Go.ResultVar.tmp 3] = _
        simp only [resDV,resL,resDV1,go_sem,jf,jh,ji,ja,jb,reduceIte,jc,jg,jd,je,reduceCtorEq]
        refine ⟨_,R,rfl,?_,rfl⟩
        have hd:decodeF bs = ((xs,ks),0):=by rw [hde,if_neg]; simp [hy,← hq]
        rw [hR,hd,hA,hK]
        exact .two (.low (hlN 0)) .int
      · have d5:eqB yb bs = false:=by
          cases h:eqB yb bs with
          | false=>rfl
          | true=>exact absurd ((eqB_iff _ _).1 h).symm hq
        unfold eqB at d5
        rw [if_pos (.inr hq)] at hde
        repeat (first|((first|refine sA hL hn rfl ?_|refine sB hL hn rfl ?_);simp only [go_sem,jf,jh,ji,ja,jb,reduceIte,jc,jg,jd,je,reduceCtorEq,d4,oX,oZ,ho',binStr,d5,hbd])|((first|refine sC ?_|refine sH ?_|refine sI ?_|refine sJ ?_);try simp only [jk,jl,jm,jn,if_true,if_false,jb])|refine sD ?_|refine sE ?_|refine sF rfl ?_|refine sG rfl ?_)
        refine ⟨_,_,?_,_,(.tup [.agg [.nils,.nils],.int .i64 21]),_,Ghost.refl _ _,?_,GhostV.refl _ _ _,rfl⟩
        rotate_left
        show resDV L _ [Go.ResultVar.cell 2 123,Go.ResultVar.tmp 3] = _
        simp only [resDV,resL,resDV1,go_sem,jf,jh,ji,ja,jb,reduceIte,jc,jg,jd,je,reduceCtorEq]
        exact fin _ 21 hde
    · have d4:(ye != 0) = true:=by simpa using hy
      rw [if_pos (.inl hy)] at hde
      refine sK hP hL hn rfl rfl (henc _) rfl rfl rfl rfl ?_; simp (maxSteps:=2000000) only [go_sem,jf,jh,ji,ja,jb,reduceIte,jc,jg,jd,je,reduceCtorEq]
      repeat (first|((first|refine sA hL hn rfl ?_|refine sB hL hn rfl ?_);simp only [go_sem,jf,jh,ji,ja,jb,reduceIte,jc,jg,jd,je,reduceCtorEq,d4,hbd])|((first|refine sC ?_|refine sH ?_|refine sI ?_|refine sJ ?_);try simp only [jk,jl,jm,jn,if_true,if_false,jb])|refine sD ?_|refine sE ?_|refine sF rfl ?_|refine sG rfl ?_)
      refine ⟨_,_,?_,_,(.tup [.agg [.nils,.nils],.int .i64 21]),_,Ghost.refl _ _,?_,GhostV.refl _ _ _,rfl⟩
      rotate_left
      show resDV L _ [Go.ResultVar.cell 2 123,Go.ResultVar.tmp 3] = _
      simp only [resDV,resL,resDV1,go_sem,jf,jh,ji,ja,jb,reduceIte,jc,jg,jd,je,reduceCtorEq]
      exact fin _ 21 hde
end Go.VL
end
section
set_option maxRecDepth 10000
set_option maxHeartbeats 4000000
namespace Go.VL
open Go Go.Proofs
open Nat renaming reduceAdd → ja, reduceEqDiff → jb, reduceSub → jc, reduceMul → jd, reduceLeDiff → je, reduceBEq → jf, reduceLT → jg
open Int renaming reduceLT → jh, reduceLE → ji
open Go.VL renaming thenK → jk, blockK → jl, loopK → jm, loopG → jn
def rkidsF (rec:Int→Option Int→Option Int→WS→WS × Bool) (xs:List It) (lo hi:Option Int):List Int→Nat→WS × Bool→WS × Bool
  | [],_,q=>q
  | k :: r,i,q=>rkidsF rec xs lo hi r (i+1) (if q.2 = true then q else rec k (if 0 < i then (xs[i - 1]?).map (·.1) else lo) (if i < xs.length then (xs[i]?).map (·.1) else hi) q.1)
def rnodeF (ps:List Pg):Nat→Int→Int→Option Int→Option Int→WS→WS × Bool
  | 0,_,_,_,_,w=>(w,true)
  | n+1,at_,level,lo,hi,w =>
    if level≤16∧at_ > 0∧at_≤(ps.length:Int)∧at_ ∉ w.met then
      let w1:WS:=⟨w.met ++ [at_],w.items,w.leaf⟩
      let d:=decodeF ((ps[(at_ - 1).toNat]?).getD (0,[])).2
      if d.2 ≠ 0 then (w1,true)
      else if d.1.1.all (inB lo hi) = false then (w1,true)
      else if d.1.2.length = 0 then (⟨w1.met,w.items ++ d.1.1,level⟩,decide (w.leaf > 0) && w.leaf != level)
      else rkidsF (fun k a b w=>rnodeF ps n k (level+1) a b w) d.1.1 lo hi d.1.2 0 (w1,false)
    else (w,true)
theorem rkidsF_bad {rec:Int→Option Int→Option Int→WS→WS × Bool} (xs:List It) (lo hi:Option Int):∀ (ks:List Int) (i:Nat) (w:WS),rkidsF rec xs lo hi ks i (w,true) = (w,true)
  | [],_,_=>rfl
  | k :: r,i,w=>by simp only [rkidsF,if_true]; exact rkidsF_bad xs lo hi r (i+1) w
theorem kids_agree {rec rec':Int→Option Int→Option Int→WS→WS × Bool} (h:∀ k lo hi w,0≤w.leaf→((rec k lo hi w).2 = true∧rec' k lo hi w = ((rec k lo hi w).1,false)∧0≤(rec k lo hi w).1.leaf)∨((rec k lo hi w).2 = false∧(rec' k lo hi w).2 = true)) (xs:List It) (lo hi:Option Int) :
    ∀ (ks:List Int) (i:Nat) (w:WS),0≤w.leaf→((kidsF rec xs lo hi ks i w).2 = true∧rkidsF rec' xs lo hi ks i (w,false) = ((kidsF rec xs lo hi ks i w).1,false)∧0≤(kidsF rec xs lo hi ks i w).1.leaf)∨((kidsF rec xs lo hi ks i w).2 = false∧(rkidsF rec' xs lo hi ks i (w,false)).2 = true)
  | [],_,w,hw=>.inl ⟨rfl,rfl,hw⟩
  | k :: r,i,w,hw=>by
    simp only [kidsF,rkidsF,Bool.false_eq_true,if_false]
    rcases h k (if 0 < i then (xs[i - 1]?).map (·.1) else lo) (if i < xs.length then (xs[i]?).map (·.1) else hi) w hw with ⟨h1,h2,h3⟩ | ⟨h1,h2⟩
    · rw [if_pos h1,h2]
      exact kids_agree h xs lo hi r (i+1) _ h3
    · rw [if_neg (by rw [h1]; simp)]
      right
      refine ⟨rfl,?_⟩
      generalize rec' k (if 0 < i then (xs[i - 1]?).map (·.1) else lo) (if i < xs.length then (xs[i]?).map (·.1) else hi) w = q at h2
      obtain ⟨w',b⟩:=q
      simp only at h2
      subst h2
      rw [rkidsF_bad]
theorem node_agree (ps:List Pg):∀ (n:Nat) (at_ level:Int) (lo hi:Option Int) (w:WS),0≤level→0≤w.leaf →
    ((nodeF ps n at_ level lo hi w).2 = true∧rnodeF ps n at_ level lo hi w = ((nodeF ps n at_ level lo hi w).1,false)∧0≤(nodeF ps n at_ level lo hi w).1.leaf)∨((nodeF ps n at_ level lo hi w).2 = false∧(rnodeF ps n at_ level lo hi w).2 = true)
  | 0,_,_,_,_,_,_,_=>.inr ⟨rfl,rfl⟩
  | n+1,at_,level,lo,hi,w,hl,hw=>by
    simp only [nodeF,rnodeF]
    split
    · split
      · exact .inr ⟨rfl,rfl⟩
      · split
        · exact .inr ⟨rfl,rfl⟩
        · split
          · by_cases hlf:w.leaf = 0∨w.leaf = level
            · rw [if_pos hlf]
              left
              refine ⟨rfl,?_,hl⟩
              congr 1
              rcases hlf with h | h
              · simp [h]
              · simp [h]
            · rw [if_neg hlf]
              right
              refine ⟨rfl,?_⟩
              simp only [not_or] at hlf
              simp only [Bool.and_eq_true,decide_eq_true_eq,bne_iff_ne]
              exact ⟨by omega,hlf.2⟩
          · exact kids_agree (fun k lo hi w hw=>node_agree ps n k (level+1) lo hi w (by omega) hw) _ lo hi _ 0 _ hw
    · exact .inr ⟨rfl,rfl⟩
theorem rkidsF_len {rec:Int→Option Int→Option Int→WS→WS × Bool} {B:Nat} (hr:∀ k lo hi w,(rec k lo hi w).1.items.length≤w.items.length+B) (xs:List It) (lo hi:Option Int):∀ (ks:List Int) (i:Nat) (q:WS × Bool),
    (rkidsF rec xs lo hi ks i q).1.items.length≤q.1.items.length+B * ks.length
  | [],_,q=>by simp [rkidsF]
  | k :: r,i,q=>by
    have h1:=hr k (if 0 < i then (xs[i - 1]?).map (·.1) else lo) (if i < xs.length then (xs[i]?).map (·.1) else hi) q.1
    simp only [rkidsF,List.length_cons]
    revert h1
    generalize rec k (if 0 < i then (xs[i - 1]?).map (·.1) else lo) (if i < xs.length then (xs[i]?).map (·.1) else hi) q.1 = q'
    intro h1
    have e:B * (r.length+1) = B * r.length+B:=by rw [Nat.mul_add,Nat.mul_one]
    rw [e]
    split
    · have h2:=rkidsF_len hr xs lo hi r (i+1) q
      omega
    · have h2:=rkidsF_len hr xs lo hi r (i+1) q'
      omega
theorem rnodeF_len (ps:List Pg):∀ (n:Nat) (at_ level:Int) (lo hi:Option Int) (w:WS),(rnodeF ps n at_ level lo hi w).1.items.length≤w.items.length+3 * 4 ^ n
  | 0,_,_,_,_,w=>by simp [rnodeF]
  | n+1,at_,level,lo,hi,w=>by
    have hd:=decodeF_len ((ps[(at_ - 1).toNat]?).getD (0,[])).2
    have hp:4 ^ (n+1) = 4 ^ n * 4:=Nat.pow_succ ..
    have hp0:0 < 4 ^ n:=Nat.pow_pos (by omega)
    simp only [rnodeF]
    split
    · split
      · simp only; omega
      · split
        · simp only; omega
        · split
          · simp only [List.length_append]; omega
          · have:=rkidsF_len (B:=3 * 4 ^ n) (fun k a b w=>rnodeF_len ps n k (level+1) a b w) (decodeF ((ps[(at_ - 1).toNat]?).getD (0,[])).2).1.1 lo hi (decodeF ((ps[(at_ - 1).toNat]?).getD (0,[])).2).1.2 0 (⟨w.met ++ [at_],w.items,w.leaf⟩,false)
            simp only at this
            have h4:3 * 4 ^ n * (decodeF ((ps[(at_ - 1).toNat]?).getD (0,[])).2).1.2.length≤3 * 4 ^ n * 4:=Nat.mul_le_mul_left _ hd.2
            omega
    · simp only; omega
def metL (N:Nat) (met:List Int):List DV:=(List.range N).map fun (i:Nat)=>DV.bool (decide (((i+1:Nat):Int) ∈ met))
theorem metL_length (N:Nat) (met:List Int):(metL N met).length = N:=by simp [metL]
theorem metL_get {N:Nat} (met:List Int) {k:Nat} (h:k < N):(metL N met)[k]? = some (.bool (decide (((k+1:Nat):Int) ∈ met))):=by simp [metL,h]
theorem metL_set {N:Nat} (met:List Int) {k:Nat} (h:k < N):(metL N met).set k (.bool true) = metL N (met ++ [((k+1:Nat):Int)]):=by
  apply List.ext_getElem?
  intro j
  rw [List.getElem?_set,metL_length]
  by_cases hj:k = j
  · subst hj
    simp [h,metL]
  · rw [if_neg hj]
    simp only [metL,List.getElem?_map]
    by_cases hjn:j < N
    · rw [List.getElem?_range hjn]
      simp only [Option.map_some,List.mem_append,List.mem_cons,List.not_mem_nil,or_false]
      congr 2
      have h':¬ ((j:Int) = (k:Int)):=by omega
      simp [h']
    · rw [List.getElem?_eq_none (by simpa using hjn)]; rfl
theorem low_metL (n N:Nat) (met:List Int):∀ x ∈ metL N met,Low n x:=by
  intro x hx
  obtain ⟨i,_,rfl⟩:=List.mem_map.1 hx
  exact (low_bool _).2 trivial
def rW (c:Nat) (ps:List Pg) (b i:Nat) (w:WS) (bad:Bool):Ob:=.arr 104 5 [.agg [pgsD c ps,.sl b ps.length 0 ps.length,.sl i w.items.length 0 w.items.length,.int .i64 w.leaf,.bool bad]]
def rM (ps:List Pg) (w:WS):Ob:=.arr 4 1 (metL ps.length w.met)
def rS (σ:List Ob) (a b i c:Nat) (ps:List Pg) (w:WS) (bad:Bool):List Ob:=s3 σ a b i (rW c ps b i w bad) (rM ps w) (wI w)
theorem rS_tidy {σ:List Ob} {a b i:Nat} (h3:Three σ a b i) (c:Nat) (ps:List Pg) (w w':WS) (x x':Bool):Tidy (rS σ a b i c ps w x) (rS σ a b i c ps w' x'):=by
  have hb:=h3.lb
  have hi:=h3.lc
  refine s3_tidy h3 (.inl ⟨_,_,_,rfl,?_⟩) (.inl ⟨_,_,_,rfl,low_metL _ _ _⟩) (.inl ⟨_,_,_,rfl,?_⟩)
  · have:=low_pgs σ.length c ps
    simp [lk,low_int,low_bool,low_str,low_nils,low_nilp,low_nilf,low_nili,low_undef,low_skip,low_vec,low_agg,low_tup,low_fn,low_vptr,low_iface,low_ptr,low_sl,low_mp,low_it,low_yld,low_emp,lowEnv,lowObs,lowOb,tmpObs,isArr,this,hb,hi]
  · intro x hx
    obtain ⟨y,_,rfl⟩:=List.mem_map.1 hx
    exact low_eT _ y
theorem rS_append {σ:List Ob} {a b i:Nat} (h3:Three σ a b i) (c:Nat) (ps:List Pg) (w:WS) (x:Bool) (l:List Ob):rS (σ ++ l) a b i c ps w x = rS σ a b i c ps w x ++ l:=by
  unfold rS s3
  rw [List.set_append_left _ _ h3.la,List.set_append_left _ _ (by rw [List.length_set]; exact h3.lb),List.set_append_left _ _ (by rw [List.length_set,List.length_set]; exact h3.lc)]
def BD (σ:List Ob) (a b i:Nat) (lo:Option Int) (d:DV):Prop:=match lo with
  | none=>d = .nils
  | some k=>∃ id,d = .sl id 1 0 1∧id ≠ a∧id ≠ b∧id ≠ i∧σ[id]? = some (.arr 25 1 [.int .u64 k])
theorem s3_other {σ:List Ob} {a b i id:Nat} (ha:id ≠ a) (hb:id ≠ b) (hi:id ≠ i) {o:Ob} (h:σ[id]? = some o) (x y z:Ob) (l:List Ob):(s3 σ a b i x y z ++ l)[id]? = some o:=by
  have hl:=(List.getElem?_eq_some_iff.1 h).1
  rw [List.getElem?_append_left (by rw [s3_length]; exact hl)]
  unfold s3
  rw [List.getElem?_set_ne (Ne.symm hi),List.getElem?_set_ne (Ne.symm hb),List.getElem?_set_ne (Ne.symm ha)]
  exact h
end Go.VL
end
section
set_option maxRecDepth 10000
set_option maxHeartbeats 4000000
namespace Go.VL
open Go Go.Proofs
open Nat renaming reduceAdd → ja, reduceEqDiff → jb, reduceSub → jc, reduceMul → jd, reduceLeDiff → je, reduceBEq → jf, reduceLT → jg
open Int renaming reduceLT → jh, reduceLE → ji
open Go.VL renaming thenK → jk, blockK → jl, loopK → jm, loopG → jn
theorem rnodeBad_ok (c:Nat) (ps:List Pg) (hps:ps.length≤2048) (σ:List Ob) (a b i:Nat) (h3:Three σ a b i) (at_ level:Int) (lo hi:DV) (w:WS) (bad:Bool) (hat:-9223372036854775808≤at_∧at_≤9223372036854775807) (hbad:bad = true∨¬ (level≤16∧at_ > 0∧at_≤(ps.length:Int)∧at_ ∉ w.met)) :
    Ok Try.prog 48 [.ptr a 1 0 0,.int .i64 at_,.int .i64 level,lo,hi] (rS σ a b i c ps w bad) (.ret (.tup [])) (rS σ a b i c ps w true):=by
  obtain ⟨X,hX⟩:∃ X,X = ps.map ePg:=⟨_,rfl⟩
  obtain ⟨PN,hPN⟩:∃ PN,PN = ps.length:=⟨_,rfl⟩
  have hXl:X.length = PN:=by rw [hX,List.length_map,hPN]
  obtain ⟨M0,hM0⟩:∃ M0,M0 = metL ps.length w.met:=⟨_,rfl⟩
  have hM0l:M0.length = PN:=by rw [hM0,metL_length,hPN]
  unfold rS rW rM wI pgsD
  rw [← hX,← hM0,← hPN]
  rw [← hPN] at hbad
  have ga:=fun x y z=>by simpa using s3_a h3 x y z []
  have gb:=fun x y z=>by simpa using s3_b h3 x y z []
  have sa:=fun x y z x'=>by simpa using s3_setA h3 x y z x' []
  obtain ⟨N,hN⟩:∃ N,N = w.items.length:=⟨_,rfl⟩
  obtain ⟨IX,hIX⟩:∃ IX,IX = w.items.map eT:=⟨_,rfl⟩
  rw [← hN,← hIX]
  have w1:at_ > 0→IntKind.i64.wrap (at_ - 1) = at_ - 1:=fun h=>wi (by omega) rfl
  refine Ok.of_body layOk Try.func48 rfl (by decide) (by simp [Try.ntmps48]) fun C hP hn hσ hfix hdd=>?_
  rw [show Try.f48.ntmps = 201 from rfl] at hn
  have hL:LayOk C.P L:=hP ▸ layOk
  have hm:C.P.follows .mixedOrders = true:=hP ▸ mixed
  cases bad
  · have hbad:=hbad.resolve_left (by simp)
    by_cases c1:level≤16
    · have d1:decide (level > 16) = false:=decide_eq_false (by omega)
      by_cases c2:at_ > 0
      · have d2:decide (at_ < 1) = false:=decide_eq_false (by omega)
        by_cases c3:at_≤(PN:Int)
        · have d3:decide (at_ > (PN:Int)) = false:=decide_eq_false (by omega)
          have c4:at_ ∈ w.met:=by
            apply Classical.byContradiction
            intro h
            exact hbad ⟨c1,c2,c3,h⟩
          have w1:=w1 c2
          obtain ⟨q,hq⟩:∃ q:Nat,at_ = ((q+1:Nat):Int):=⟨(at_ - 1).toNat,by omega⟩
          have hqm:=metL_get (N:=PN) w.met (k:=q) (by omega)
          rw [← hq,decide_eq_true c4] at hqm
          have e1:at_ - 1 = (q:Int):=by omega
          have e2:(0≤(q:Int)∧(q:Int) < (PN:Int)):=by omega
          have e3:q+1≤PN:=by omega
          rw [hPN,← hM0] at hqm
          have w1:IntKind.i64.wrap (at_ - 1) = (q:Int):=by rw [w1]; exact e1
          clear hq
          repeat refine SW.seq ?_
          try refine SW.region ?_
          repeat (refine SWops.one hL (by rw [hn]; rfl) ?_; simp only [go_sem,jf,jh,ji,ja,jb,reduceIte,jc,jg,jd,je,reduceCtorEq,ga,gb,d1,d2,d3,hXl,w1,e2,e3,hqm,hM0l,Int.toNat_natCast]; refine (?_:SWops C _ _ _ _))
          repeat (first|((first|refine sA hL hn rfl ?_|refine sB hL hn rfl ?_);simp only [go_sem,jf,jh,ji,ja,jb,reduceIte,jc,jg,jd,je,reduceCtorEq,ga,sa])|((first|refine sC ?_|refine sH ?_|refine sI ?_|refine sJ ?_);try simp only [jk,jl,jm,jn,if_true,if_false,jb])|refine sD ?_|refine sE ?_|refine sF rfl ?_|refine sG rfl ?_)
          exact ⟨_,_,_,Ghost.refl _ _,rfl,GhostV.refl _ _ _,rfl⟩
        · have d3:decide (at_ > (PN:Int)) = true:=decide_eq_true (by omega)
          repeat refine SW.seq ?_
          try refine SW.region ?_
          repeat (refine SWops.one hL (by rw [hn]; rfl) ?_; simp only [go_sem,jf,jh,ji,ja,jb,reduceIte,jc,jg,jd,je,reduceCtorEq,ga,d1,d2,d3,hXl]; refine (?_:SWops C _ _ _ _))
          repeat (first|((first|refine sA hL hn rfl ?_|refine sB hL hn rfl ?_);simp only [go_sem,jf,jh,ji,ja,jb,reduceIte,jc,jg,jd,je,reduceCtorEq,ga,sa])|((first|refine sC ?_|refine sH ?_|refine sI ?_|refine sJ ?_);try simp only [jk,jl,jm,jn,if_true,if_false,jb])|refine sD ?_|refine sE ?_|refine sF rfl ?_|refine sG rfl ?_)
          exact ⟨_,_,_,Ghost.refl _ _,rfl,GhostV.refl _ _ _,rfl⟩
      · have d2:decide (at_ < 1) = true:=decide_eq_true (by omega)
        repeat refine SW.seq ?_
        try refine SW.region ?_
        repeat (refine SWops.one hL (by rw [hn]; rfl) ?_; simp only [go_sem,jf,jh,ji,ja,jb,reduceIte,jc,jg,jd,je,reduceCtorEq,ga,d1,d2]; refine (?_:SWops C _ _ _ _))
        repeat (first|((first|refine sA hL hn rfl ?_|refine sB hL hn rfl ?_);simp only [go_sem,jf,jh,ji,ja,jb,reduceIte,jc,jg,jd,je,reduceCtorEq,ga,sa])|((first|refine sC ?_|refine sH ?_|refine sI ?_|refine sJ ?_);try simp only [jk,jl,jm,jn,if_true,if_false,jb])|refine sD ?_|refine sE ?_|refine sF rfl ?_|refine sG rfl ?_)
        exact ⟨_,_,_,Ghost.refl _ _,rfl,GhostV.refl _ _ _,rfl⟩
    · have d1:decide (level > 16) = true:=decide_eq_true (by omega)
      repeat refine SW.seq ?_
      try refine SW.region ?_
      repeat (refine SWops.one hL (by rw [hn]; rfl) ?_; simp only [go_sem,jf,jh,ji,ja,jb,reduceIte,jc,jg,jd,je,reduceCtorEq,ga,d1]; refine (?_:SWops C _ _ _ _))
      repeat (first|((first|refine sA hL hn rfl ?_|refine sB hL hn rfl ?_);simp only [go_sem,jf,jh,ji,ja,jb,reduceIte,jc,jg,jd,je,reduceCtorEq,ga,sa])|((first|refine sC ?_|refine sH ?_|refine sI ?_|refine sJ ?_);try simp only [jk,jl,jm,jn,if_true,if_false,jb])|refine sD ?_|refine sE ?_|refine sF rfl ?_|refine sG rfl ?_)
      exact ⟨_,_,_,Ghost.refl _ _,rfl,GhostV.refl _ _ _,rfl⟩
  · repeat refine SW.seq ?_
    try refine SW.region ?_
    repeat (refine SWops.one hL (by rw [hn]; rfl) ?_; simp only [go_sem,jf,jh,ji,ja,jb,reduceIte,jc,jg,jd,je,reduceCtorEq,ga]; refine (?_:SWops C _ _ _ _))
    repeat (first|((first|refine sA hL hn rfl ?_|refine sB hL hn rfl ?_);simp only [go_sem,jf,jh,ji,ja,jb,reduceIte,jc,jg,jd,je,reduceCtorEq,ga,sa])|((first|refine sC ?_|refine sH ?_|refine sI ?_|refine sJ ?_);try simp only [jk,jl,jm,jn,if_true,if_false,jb])|refine sD ?_|refine sE ?_|refine sF rfl ?_|refine sG rfl ?_)
    exact ⟨_,_,_,Ghost.refl _ _,rfl,GhostV.refl _ _ _,rfl⟩
end Go.VL
end
