/- Proved: TreeTells: whatever tree, root, key and number come in (together of bulk at most 1048576), the call returns true and they read as they did; no other condition. This text is part 17 of 18. -/
import Derived.Test.YtghomgiklhbjiaaW16
set_option linter.unusedSimpArgs false
set_option linter.unusedVariables false
section
set_option maxRecDepth 10000
set_option maxHeartbeats 4000000
namespace Go.VL
open Go Go.Proofs
open Nat renaming reduceAdd → ja, reduceEqDiff → jb, reduceSub → jc, reduceMul → jd, reduceLeDiff → je, reduceBEq → jf, reduceLT → jg
open Int renaming reduceLT → jh, reduceLE → ji
open Go.VL renaming thenK → jk, blockK → jl, loopK → jm, loopG → jn
def di4_14:List DI:=[⟨[9],[],false,[0],some 153,[]⟩,⟨[1],[],false,[0],some 154,[]⟩,⟨[153,154],[0,1],false,[0],some 155,[0,1]⟩,⟨[155],[0,1,2],false,[0],some 156,[2,2]⟩,⟨[4],[],false,[0],some 157,[]⟩,⟨[1],[],false,[0],some 158,[]⟩,⟨[157,158],rg 0 6,false,[0],some 159,[4,5,3]⟩,⟨[156,159],rg 0 7,false,[0],some 160,[3,6]⟩,⟨[160],rg 0 8,false,[0],some 161,[7,6]⟩,⟨[9,161],rg 0 9,false,[0],some 162,[8]⟩,⟨[161,162],rg 0 10,false,[0],some 163,[9,8]⟩,⟨[4,161],rg 0 9,false,[0],some 164,[8]⟩,⟨[161,164],(rg 0 9 ++ [11]),false,[0],some 165,[11,8]⟩,⟨[161,163,165],rg 0 13,false,[0],some 166,[10,12,8,8]⟩,⟨[161,166],rg 0 14,false,[0],some 167,[8,13]⟩,⟨[167],rg 0 15,false,[0],some 168,[14,13]⟩,⟨[168],rg 0 16,false,[0],some 169,[15,15]⟩,⟨[168,169],rg 0 17,false,[0],some 170,[15,16]⟩,⟨[170],rg 0 18,false,[0],some 8,([17,16] ++ rg 0 18)⟩]
theorem floorF_found {ps:List Pg} {root key:Int} {x:It} {e:Int} (h:floorF ps root key = (x,true,e)):e = 0:=by
  unfold floorF at h
  simp only at h
  repeat' split at h
  all_goals first | (cases h; rfl) | (cases h; done)
theorem treeTells_ok (c:Nat) (ps:List Pg) (root key n:Int) (hroot:I64 root) (hps:ps.length≤1048576) (hb:∀ p ∈ ps,p.2.length≤134217728) (σ:List Ob) :
    Ok Try.prog 4 [.agg [pgsD c ps],.int .i64 root,.int .u64 key,.int .i64 n] σ (.ret (.bool true)) σ:=by
  have hlen:(refReadF ps root).1.length≤1000000000000:=by
    have h:=treeF_len ps root
    have h4:3 * 4 ^ 16≤1000000000000:=by decide
    unfold refReadF
    split
    · simp
    · simp only; omega
  have hof:=of_ok c ps hps hb
  have hfloor:=floor_ok 0 (ps.map own0) root key
  have hrfloor:=refFloor_ok c ps root key hroot hlen
  have hrange:=range_ok 0 (ps.map own0) root key n
  have hrrange:=refRange_ok c ps root key n hroot hlen
  have hreach:=reach_ok 0 (ps.map own0) root
  have hrreach:=refReach_ok c ps root hroot
  have hget:=get8_ok 0 (ps.map own0) root key
  have hcheck:=check_ok 0 (ps.map own0) root
  have hrcheck:=refCheckT_ok c ps root hroot
  have hsame:=sameList_ok 0 c (ps.map own0) ps (by simp [own0,Function.comp_def])
  have hlow:=low_pgs 0 c ps
  have hce:(refReadF ps root).2.2 = (treeF ps root).2:=by
    unfold refReadF
    split
    · rfl
    · rename_i h; simp only; omega
  have hgF:getFT (ps.map own0) root key = getFT ps root key:=by unfold getFT; rw [floor_own]
  rw [floor_own,floor_agree] at hfloor
  rw [range_own,range_agree] at hrange
  rw [reach_own,reach_agree] at hreach
  rw [hgF] at hget
  rw [tree_own] at hcheck
  rw [hce] at hrcheck
  obtain ⟨F,hF⟩:∃ F,F = floorF ps root key:=⟨_,rfl⟩
  have hFa:=floor_agree ps root key
  rw [← hF] at hFa
  have hf1:(rfGo key (refReadF ps root).1 ((0,0),false)).1 = F.1:=by rw [hFa]
  have hf2:(rfGo key (refReadF ps root).1 ((0,0),false)).2 = F.2.1:=by rw [hFa]
  have hf3:(refReadF ps root).2.2 = F.2.2:=by rw [hFa]
  have hgd:getFT ps root key = if F.2.1 = false∨F.1.1 ≠ key then (0,false,F.2.2) else (F.1.2,true,0):=by unfold getFT; rw [← hF]
  simp only [hf1,hf2] at hfloor hrfloor
  simp only [hf3] at hfloor hrfloor
  obtain ⟨⟨x1,x2⟩,is,e⟩:=F
  have hfound:is = true→e = 0:=fun h=>floorF_found (x:=(x1,x2)) (by rw [← hF,h])
  simp only at hfloor hrfloor hgd
  unfold eT at hfloor hrfloor
  simp only at hfloor hrfloor
  obtain ⟨LI,hLI⟩:∃ LI,LI = (if (refReadF ps root).2.2 ≠ 0∨n < 0 then [] else rrGo key n (refReadF ps root).1 []):=⟨_,rfl⟩
  obtain ⟨eL,heL⟩:∃ eL,eL = (if (refReadF ps root).2.2 ≠ 0 then (refReadF ps root).2.2 else if n < 0 then 4 else 0):=⟨_,rfl⟩
  simp only [← hLI,← heL] at hrange hrrange
  have hsi:=sameItems_ok 0 0 LI
  obtain ⟨LD,hLD⟩:∃ LD,LD = LI.map eT:=⟨_,rfl⟩
  rw [← hLD] at hrange hrrange hsi
  obtain ⟨RI,hRI⟩:∃ RI,RI = (refReadF ps root).2.1:=⟨_,rfl⟩
  obtain ⟨eR,heR⟩:∃ eR,eR = (refReadF ps root).2.2:=⟨_,rfl⟩
  simp only [← hRI,← heR] at hreach hrreach
  have hsn:=sameInts_ok 0 0 RI
  obtain ⟨RD,hRD⟩:∃ RD,RD = RI.map eI:=⟨_,rfl⟩
  rw [← hRD] at hreach hrreach hsn
  obtain ⟨eC,heC⟩:∃ eC,eC = (treeF ps root).2:=⟨_,rfl⟩
  rw [← heC] at hcheck hrcheck
  obtain ⟨G,hG⟩:∃ G,G = getFT ps root key:=⟨_,rfl⟩
  rw [← hG] at hget hgd
  obtain ⟨v,th,eG⟩:=G
  simp only at hget
  obtain ⟨P,hPe⟩:∃ P,P = ps.map ePg:=⟨_,rfl⟩
  obtain ⟨PO,hPO⟩:∃ PO,PO = (ps.map own0).map ePg:=⟨_,rfl⟩
  simp only [pgsD,← hPe,← hPO] at hof hfloor hrfloor hrange hrrange hreach hrreach hget hcheck hrcheck hsame hlow ⊢
  refine Ok.thaw (c:=0) (d:=.bool true) (O:=[.arr 24 1 [.agg [.vec c 1 P]],.arr 29 1 [.agg [.vec 0 1 PO]],.arr 27 2 [.agg [.int .u64 x1,.int .u64 x2]],.arr 27 2 [.agg [.int .u64 x1,.int .u64 x2]]]) ?_ (.low ((low_bool _).2 trivial)) (by have h:=hlow; simp only [low_vec] at h; simp [lk,low_int,low_bool,low_str,low_nils,low_nilp,low_nilf,low_nili,low_undef,low_skip,low_vec,low_agg,low_tup,low_fn,low_vptr,low_iface,low_ptr,low_sl,low_mp,low_it,low_yld,low_emp,lowEnv,lowObs,lowOb,tmpObs,isArr]; exact h) σ
  have b1:(x1 == x1) = true:=by simp
  have b2:(x2 == x2) = true:=by simp
  have bi:(is != is) = false:=by cases is <;> rfl
  have n1:(e != e) = false:=by simp
  have n2:(eL != eL) = false:=by simp
  have n3:(eR != eR) = false:=by simp
  have q1:(eC == eC) = true:=by simp
  have hcases:(is = false∧v = 0∧th = false∧eG = e)∨(is = true∧(x1 == key) = false∧v = 0∧th = false∧eG = e)∨(is = true∧(x1 == key) = true∧v = x2∧th = true∧eG = e):=by
    cases is
    · left
      rw [if_pos (.inl rfl)] at hgd
      cases hgd
      exact ⟨rfl,rfl,rfl,rfl⟩
    · right
      by_cases hk:x1 = key
      · right
        rw [if_neg (by simp [hk])] at hgd
        have h0:=hfound rfl
        cases hgd
        exact ⟨rfl,by simpa using hk,rfl,rfl,h0.symm⟩
      · left
        rw [if_pos (.inr hk)] at hgd
        cases hgd
        exact ⟨rfl,by simpa using hk,rfl,rfl,rfl⟩
  have m1:((0:Int) != 0) = false:=rfl
  have m2:(x2 != x2) = false:=by simp
  refine Ok.of_body layOk Try.func4 rfl (by decide) (by simp [Try.ntmps4]) fun C hP hn hσ hfix hdd=>?_
  rw [show Try.f4.ntmps = 171 from rfl] at hn
  have hL:LayOk C.P L:=hP ▸ layOk
  have hm:C.P.follows .mixedOrders = true:=hP ▸ mixed
  repeat (first|((first|refine sA hL hn rfl ?_|refine sB hL hn rfl ?_);simp only [go_sem,jf,jh,ji,ja,jb,reduceIte,jc,jg,jd,je,reduceCtorEq])|((first|refine sC ?_|refine sH ?_|refine sI ?_|refine sJ ?_);try simp only [jk,jl,jm,jn,if_true,if_false,jb])|refine sD ?_|refine sE ?_|refine sF rfl ?_|refine sG rfl ?_)
  refine sK hP hL hn rfl rfl (hof _) rfl rfl rfl rfl ?_; simp (maxSteps:=2000000) only [go_sem,jf,jh,ji,ja,jb,reduceIte,jc,jg,jd,je,reduceCtorEq]
  repeat (first|((first|refine sA hL hn rfl ?_|refine sB hL hn rfl ?_);simp only [go_sem,jf,jh,ji,ja,jb,reduceIte,jc,jg,jd,je,reduceCtorEq])|((first|refine sC ?_|refine sH ?_|refine sI ?_|refine sJ ?_);try simp only [jk,jl,jm,jn,if_true,if_false,jb])|refine sD ?_|refine sE ?_|refine sF rfl ?_|refine sG rfl ?_)
  refine sK hP hL hn rfl rfl (hfloor _) rfl rfl rfl rfl ?_; simp (maxSteps:=2000000) only [go_sem,jf,jh,ji,ja,jb,reduceIte,jc,jg,jd,je,reduceCtorEq]
  repeat (first|((first|refine sA hL hn rfl ?_|refine sB hL hn rfl ?_);simp only [go_sem,jf,jh,ji,ja,jb,reduceIte,jc,jg,jd,je,reduceCtorEq])|((first|refine sC ?_|refine sH ?_|refine sI ?_|refine sJ ?_);try simp only [jk,jl,jm,jn,if_true,if_false,jb])|refine sD ?_|refine sE ?_|refine sF rfl ?_|refine sG rfl ?_)
  refine sK hP hL hn rfl rfl (hrfloor _) rfl rfl rfl rfl ?_; simp (maxSteps:=2000000) only [go_sem,jf,jh,ji,ja,jb,reduceIte,jc,jg,jd,je,reduceCtorEq]
  repeat (first|((first|refine sA hL hn rfl ?_|refine sB hL hn rfl ?_);simp only [go_sem,jf,jh,ji,ja,jb,reduceIte,jc,jg,jd,je,reduceCtorEq])|((first|refine sC ?_|refine sH ?_|refine sI ?_|refine sJ ?_);try simp only [jk,jl,jm,jn,if_true,if_false,jb])|refine sD ?_|refine sE ?_|refine sF rfl ?_|refine sG rfl ?_)
  refine sK hP hL hn rfl rfl (hrange _) rfl rfl rfl rfl ?_; simp (maxSteps:=2000000) only [go_sem,jf,jh,ji,ja,jb,reduceIte,jc,jg,jd,je,reduceCtorEq]
  repeat (first|((first|refine sA hL hn rfl ?_|refine sB hL hn rfl ?_);simp only [go_sem,jf,jh,ji,ja,jb,reduceIte,jc,jg,jd,je,reduceCtorEq])|((first|refine sC ?_|refine sH ?_|refine sI ?_|refine sJ ?_);try simp only [jk,jl,jm,jn,if_true,if_false,jb])|refine sD ?_|refine sE ?_|refine sF rfl ?_|refine sG rfl ?_)
  refine sK hP hL hn rfl rfl (hrrange _) rfl rfl rfl rfl ?_; simp (maxSteps:=2000000) only [go_sem,jf,jh,ji,ja,jb,reduceIte,jc,jg,jd,je,reduceCtorEq]
  repeat (first|((first|refine sA hL hn rfl ?_|refine sB hL hn rfl ?_);simp only [go_sem,jf,jh,ji,ja,jb,reduceIte,jc,jg,jd,je,reduceCtorEq])|((first|refine sC ?_|refine sH ?_|refine sI ?_|refine sJ ?_);try simp only [jk,jl,jm,jn,if_true,if_false,jb])|refine sD ?_|refine sE ?_|refine sF rfl ?_|refine sG rfl ?_)
  refine sK hP hL hn rfl rfl (hreach _) rfl rfl rfl rfl ?_; simp (maxSteps:=2000000) only [go_sem,jf,jh,ji,ja,jb,reduceIte,jc,jg,jd,je,reduceCtorEq]
  repeat (first|((first|refine sA hL hn rfl ?_|refine sB hL hn rfl ?_);simp only [go_sem,jf,jh,ji,ja,jb,reduceIte,jc,jg,jd,je,reduceCtorEq])|((first|refine sC ?_|refine sH ?_|refine sI ?_|refine sJ ?_);try simp only [jk,jl,jm,jn,if_true,if_false,jb])|refine sD ?_|refine sE ?_|refine sF rfl ?_|refine sG rfl ?_)
  refine sK hP hL hn rfl rfl (hrreach _) rfl rfl rfl rfl ?_; simp (maxSteps:=2000000) only [go_sem,jf,jh,ji,ja,jb,reduceIte,jc,jg,jd,je,reduceCtorEq]
  repeat (first|((first|refine sA hL hn rfl ?_|refine sB hL hn rfl ?_);simp only [go_sem,jf,jh,ji,ja,jb,reduceIte,jc,jg,jd,je,reduceCtorEq])|((first|refine sC ?_|refine sH ?_|refine sI ?_|refine sJ ?_);try simp only [jk,jl,jm,jn,if_true,if_false,jb])|refine sD ?_|refine sE ?_|refine sF rfl ?_|refine sG rfl ?_)
  refine sK hP hL hn rfl rfl (hget _) rfl rfl rfl rfl ?_; simp (maxSteps:=2000000) only [go_sem,jf,jh,ji,ja,jb,reduceIte,jc,jg,jd,je,reduceCtorEq]
  refine sC ?_
  try simp only [jk,jl,jm,jn,if_true,if_false,jb]
  refine SW.keep [(1,.int .i64 root),(2,.int .u64 key),(4,.ptr 0 1 0 0),(9,.ptr 1 1 0 0),(10,.ptr 2 1 0 0),(11,.bool is),(12,.int .i64 e),(13,.ptr 3 1 0 0),(14,.bool is),(15,.int .i64 e),(16,.vec 0 2 LD),(17,.int .i64 eL),(18,.vec 0 2 LD),(19,.int .i64 eL),(20,.vec 0 1 RD),(21,.int .i64 eR),(22,.vec 0 1 RD),(23,.int .i64 eR),(24,.int .u64 v),(25,.bool th),(26,.int .i64 eG)] ⟨rfl,rfl,rfl,rfl,rfl,rfl,rfl,rfl,rfl,rfl,rfl,rfl,rfl,rfl,rfl,rfl,rfl,rfl,rfl,rfl,rfl,trivial⟩ ?_
  obtain rfl:eG = e:=by rcases hcases with h | h | h <;> simp_all
  repeat (first|((first|refine sA hL hn rfl ?_|refine sB hL hn rfl ?_);simp only [go_sem,jf,jh,ji,ja,jb,reduceIte,jc,jg,jd,je,reduceCtorEq])|((first|refine sC ?_|refine sH ?_|refine sI ?_|refine sJ ?_);try simp only [jk,jl,jm,jn,if_true,if_false,jb])|refine sD ?_|refine sE ?_|refine sF rfl ?_|refine sG rfl ?_)
  repeat refine SW.seq ?_
  try refine SW.region ?_
  repeat (refine SWops.one hL (by rw [hn]; rfl) ?_; simp only [go_sem,jf,jh,ji,ja,jb,reduceIte,jc,jg,jd,je,reduceCtorEq,b1,b2,bi]; refine (?_:SWops C _ _ _ _))
  refine sK hP hL hn rfl rfl (num_ok _ _) rfl rfl rfl rfl ?_; simp (maxSteps:=2000000) only [go_sem,jf,jh,ji,ja,jb,reduceIte,jc,jg,jd,je,reduceCtorEq,n1]
  refine sK hP hL hn rfl rfl (hsi _) rfl rfl rfl rfl ?_; simp (maxSteps:=2000000) only [go_sem,jf,jh,ji,ja,jb,reduceIte,jc,jg,jd,je,reduceCtorEq]
  refine sK hP hL hn rfl rfl (num_ok _ _) rfl rfl rfl rfl ?_; simp (maxSteps:=2000000) only [go_sem,jf,jh,ji,ja,jb,reduceIte,jc,jg,jd,je,reduceCtorEq,n2]
  refine sK hP hL hn rfl rfl (hsn _) rfl rfl rfl rfl ?_; simp (maxSteps:=2000000) only [go_sem,jf,jh,ji,ja,jb,reduceIte,jc,jg,jd,je,reduceCtorEq]
  refine sK hP hL hn rfl rfl (num_ok _ _) rfl rfl rfl rfl ?_; simp (maxSteps:=2000000) only [go_sem,jf,jh,ji,ja,jb,reduceIte,jc,jg,jd,je,reduceCtorEq,n3]
  refine sK hP hL hn rfl rfl (num_ok _ _) rfl rfl rfl rfl ?_; simp (maxSteps:=2000000) only [go_sem,jf,jh,ji,ja,jb,reduceIte,jc,jg,jd,je,reduceCtorEq,n1]
  refine sC ?_
  try simp only [jk,jl,jm,jn,if_true,if_false,jb]
  refine SW.keep [(1,.int .i64 root),(2,.int .u64 key),(4,.ptr 0 1 0 0),(9,.ptr 1 1 0 0),(13,.ptr 3 1 0 0),(14,.bool is),(24,.int .u64 v),(25,.bool th),(125,.bool false)] ⟨rfl,rfl,rfl,rfl,rfl,rfl,rfl,rfl,rfl,trivial⟩ ?_
  rcases hcases with ⟨rfl,rfl,rfl,_⟩ | ⟨rfl,hk,rfl,rfl,_⟩ | ⟨rfl,hk,rfl,rfl,_⟩
  · repeat (first|((first|refine sA hL hn rfl ?_|refine sB hL hn rfl ?_);simp only [go_sem,jf,jh,ji,ja,jb,reduceIte,jc,jg,jd,je,reduceCtorEq,m1])|((first|refine sC ?_|refine sH ?_|refine sI ?_|refine sJ ?_);try simp only [jk,jl,jm,jn,if_true,if_false,jb])|refine sD ?_|refine sE ?_|refine sF rfl ?_|refine sG rfl ?_)
    refine sM hL hm hn di4_14 [[.arr 24 1 [.agg [.vec c 1 P]],.arr 29 1 [.agg [.vec 0 1 PO]],.arr 27 2 [.agg [.int .u64 x1,.int .u64 x2]],.arr 27 2 [.agg [.int .u64 x1,.int .u64 x2]]]] rfl rfl rfl ?_
    unfold di4_14
    repeat (rw [dgo_cons]; simp (maxSteps:=2000000) only [go_sem,jf,jh,ji,ja,jb,reduceIte,jc,jg,jd,je,reduceCtorEq])
    try rw [dgo_nil]
    try simp only [go_sem,jf,jh,ji,ja,jb,reduceIte,jc,jg,jd,je,reduceCtorEq]
    refine DCall.pure hP (fun q _=>hcheck _) rfl rfl rfl rfl ?_; repeat (simp (maxSteps:=2000000) only [go_sem,jf,jh,ji,ja,jb,reduceIte,jc,jg,jd,je,reduceCtorEq]; first | rw [dgo_cons] | rw [dgo_nil])
    try simp only [go_sem,jf,jh,ji,ja,jb,reduceIte,jc,jg,jd,je,reduceCtorEq]
    refine DCall.pure hP (fun q _=>num_ok _ _) rfl rfl rfl rfl ?_; repeat (simp (maxSteps:=2000000) only [go_sem,jf,jh,ji,ja,jb,reduceIte,jc,jg,jd,je,reduceCtorEq]; first | rw [dgo_cons] | rw [dgo_nil])
    try simp only [go_sem,jf,jh,ji,ja,jb,reduceIte,jc,jg,jd,je,reduceCtorEq]
    refine DCall.pure hP (fun q _=>hrcheck _) rfl rfl rfl rfl ?_; repeat (simp (maxSteps:=2000000) only [go_sem,jf,jh,ji,ja,jb,reduceIte,jc,jg,jd,je,reduceCtorEq,q1]; first | rw [dgo_cons] | rw [dgo_nil])
    try simp only [go_sem,jf,jh,ji,ja,jb,reduceIte,jc,jg,jd,je,reduceCtorEq,q1]
    refine DCall.pure hP (fun q _=>hsame _) rfl rfl rfl rfl ?_; repeat (simp (maxSteps:=2000000) only [go_sem,jf,jh,ji,ja,jb,reduceIte,jc,jg,jd,je,reduceCtorEq]; first | rw [dgo_cons] | rw [dgo_nil])
    try simp only [go_sem,jf,jh,ji,ja,jb,reduceIte,jc,jg,jd,je,reduceCtorEq]
    refine DCall.pure hP (fun q _=>alive_ok _) rfl rfl rfl rfl ?_; repeat (simp (maxSteps:=2000000) only [go_sem,jf,jh,ji,ja,jb,reduceIte,jc,jg,jd,je,reduceCtorEq]; first | rw [dgo_cons] | rw [dgo_nil])
    try simp only [go_sem,jf,jh,ji,ja,jb,reduceIte,jc,jg,jd,je,reduceCtorEq]
    repeat (first|((first|refine sA hL hn rfl ?_|refine sB hL hn rfl ?_);simp only [go_sem,jf,jh,ji,ja,jb,reduceIte,jc,jg,jd,je,reduceCtorEq])|((first|refine sC ?_|refine sH ?_|refine sI ?_|refine sJ ?_);try simp only [jk,jl,jm,jn,if_true,if_false,jb])|refine sD ?_|refine sE ?_|refine sF rfl ?_|refine sG rfl ?_)
    exact ⟨_,_,_,Ghost.refl _ _,rfl,GhostV.refl _ _ _,rfl⟩
  · repeat (first|((first|refine sA hL hn rfl ?_|refine sB hL hn rfl ?_);simp only [go_sem,jf,jh,ji,ja,jb,reduceIte,jc,jg,jd,je,reduceCtorEq,hk,m1])|((first|refine sC ?_|refine sH ?_|refine sI ?_|refine sJ ?_);try simp only [jk,jl,jm,jn,if_true,if_false,jb])|refine sD ?_|refine sE ?_|refine sF rfl ?_|refine sG rfl ?_)
    refine sM hL hm hn di4_14 [[.arr 24 1 [.agg [.vec c 1 P]],.arr 29 1 [.agg [.vec 0 1 PO]],.arr 27 2 [.agg [.int .u64 x1,.int .u64 x2]],.arr 27 2 [.agg [.int .u64 x1,.int .u64 x2]]]] rfl rfl rfl ?_
    unfold di4_14
    repeat (rw [dgo_cons]; simp (maxSteps:=2000000) only [go_sem,jf,jh,ji,ja,jb,reduceIte,jc,jg,jd,je,reduceCtorEq])
    try rw [dgo_nil]
    try simp only [go_sem,jf,jh,ji,ja,jb,reduceIte,jc,jg,jd,je,reduceCtorEq]
    refine DCall.pure hP (fun q _=>hcheck _) rfl rfl rfl rfl ?_; repeat (simp (maxSteps:=2000000) only [go_sem,jf,jh,ji,ja,jb,reduceIte,jc,jg,jd,je,reduceCtorEq]; first | rw [dgo_cons] | rw [dgo_nil])
    try simp only [go_sem,jf,jh,ji,ja,jb,reduceIte,jc,jg,jd,je,reduceCtorEq]
    refine DCall.pure hP (fun q _=>num_ok _ _) rfl rfl rfl rfl ?_; repeat (simp (maxSteps:=2000000) only [go_sem,jf,jh,ji,ja,jb,reduceIte,jc,jg,jd,je,reduceCtorEq]; first | rw [dgo_cons] | rw [dgo_nil])
    try simp only [go_sem,jf,jh,ji,ja,jb,reduceIte,jc,jg,jd,je,reduceCtorEq]
    refine DCall.pure hP (fun q _=>hrcheck _) rfl rfl rfl rfl ?_; repeat (simp (maxSteps:=2000000) only [go_sem,jf,jh,ji,ja,jb,reduceIte,jc,jg,jd,je,reduceCtorEq,q1]; first | rw [dgo_cons] | rw [dgo_nil])
    try simp only [go_sem,jf,jh,ji,ja,jb,reduceIte,jc,jg,jd,je,reduceCtorEq,q1]
    refine DCall.pure hP (fun q _=>hsame _) rfl rfl rfl rfl ?_; repeat (simp (maxSteps:=2000000) only [go_sem,jf,jh,ji,ja,jb,reduceIte,jc,jg,jd,je,reduceCtorEq]; first | rw [dgo_cons] | rw [dgo_nil])
    try simp only [go_sem,jf,jh,ji,ja,jb,reduceIte,jc,jg,jd,je,reduceCtorEq]
    refine DCall.pure hP (fun q _=>alive_ok _) rfl rfl rfl rfl ?_; repeat (simp (maxSteps:=2000000) only [go_sem,jf,jh,ji,ja,jb,reduceIte,jc,jg,jd,je,reduceCtorEq]; first | rw [dgo_cons] | rw [dgo_nil])
    try simp only [go_sem,jf,jh,ji,ja,jb,reduceIte,jc,jg,jd,je,reduceCtorEq]
    repeat (first|((first|refine sA hL hn rfl ?_|refine sB hL hn rfl ?_);simp only [go_sem,jf,jh,ji,ja,jb,reduceIte,jc,jg,jd,je,reduceCtorEq])|((first|refine sC ?_|refine sH ?_|refine sI ?_|refine sJ ?_);try simp only [jk,jl,jm,jn,if_true,if_false,jb])|refine sD ?_|refine sE ?_|refine sF rfl ?_|refine sG rfl ?_)
    exact ⟨_,_,_,Ghost.refl _ _,rfl,GhostV.refl _ _ _,rfl⟩
  · repeat (first|((first|refine sA hL hn rfl ?_|refine sB hL hn rfl ?_);simp only [go_sem,jf,jh,ji,ja,jb,reduceIte,jc,jg,jd,je,reduceCtorEq,hk,m1,m2])|((first|refine sC ?_|refine sH ?_|refine sI ?_|refine sJ ?_);try simp only [jk,jl,jm,jn,if_true,if_false,jb])|refine sD ?_|refine sE ?_|refine sF rfl ?_|refine sG rfl ?_)
    refine sM hL hm hn di4_14 [[.arr 24 1 [.agg [.vec c 1 P]],.arr 29 1 [.agg [.vec 0 1 PO]],.arr 27 2 [.agg [.int .u64 x1,.int .u64 v]],.arr 27 2 [.agg [.int .u64 x1,.int .u64 v]]]] rfl rfl rfl ?_
    unfold di4_14
    repeat (rw [dgo_cons]; simp (maxSteps:=2000000) only [go_sem,jf,jh,ji,ja,jb,reduceIte,jc,jg,jd,je,reduceCtorEq])
    try rw [dgo_nil]
    try simp only [go_sem,jf,jh,ji,ja,jb,reduceIte,jc,jg,jd,je,reduceCtorEq]
    refine DCall.pure hP (fun q _=>hcheck _) rfl rfl rfl rfl ?_; repeat (simp (maxSteps:=2000000) only [go_sem,jf,jh,ji,ja,jb,reduceIte,jc,jg,jd,je,reduceCtorEq]; first | rw [dgo_cons] | rw [dgo_nil])
    try simp only [go_sem,jf,jh,ji,ja,jb,reduceIte,jc,jg,jd,je,reduceCtorEq]
    refine DCall.pure hP (fun q _=>num_ok _ _) rfl rfl rfl rfl ?_; repeat (simp (maxSteps:=2000000) only [go_sem,jf,jh,ji,ja,jb,reduceIte,jc,jg,jd,je,reduceCtorEq]; first | rw [dgo_cons] | rw [dgo_nil])
    try simp only [go_sem,jf,jh,ji,ja,jb,reduceIte,jc,jg,jd,je,reduceCtorEq]
    refine DCall.pure hP (fun q _=>hrcheck _) rfl rfl rfl rfl ?_; repeat (simp (maxSteps:=2000000) only [go_sem,jf,jh,ji,ja,jb,reduceIte,jc,jg,jd,je,reduceCtorEq,q1]; first | rw [dgo_cons] | rw [dgo_nil])
    try simp only [go_sem,jf,jh,ji,ja,jb,reduceIte,jc,jg,jd,je,reduceCtorEq,q1]
    refine DCall.pure hP (fun q _=>hsame _) rfl rfl rfl rfl ?_; repeat (simp (maxSteps:=2000000) only [go_sem,jf,jh,ji,ja,jb,reduceIte,jc,jg,jd,je,reduceCtorEq]; first | rw [dgo_cons] | rw [dgo_nil])
    try simp only [go_sem,jf,jh,ji,ja,jb,reduceIte,jc,jg,jd,je,reduceCtorEq]
    refine DCall.pure hP (fun q _=>alive_ok _) rfl rfl rfl rfl ?_; repeat (simp (maxSteps:=2000000) only [go_sem,jf,jh,ji,ja,jb,reduceIte,jc,jg,jd,je,reduceCtorEq]; first | rw [dgo_cons] | rw [dgo_nil])
    try simp only [go_sem,jf,jh,ji,ja,jb,reduceIte,jc,jg,jd,je,reduceCtorEq]
    repeat (first|((first|refine sA hL hn rfl ?_|refine sB hL hn rfl ?_);simp only [go_sem,jf,jh,ji,ja,jb,reduceIte,jc,jg,jd,je,reduceCtorEq])|((first|refine sC ?_|refine sH ?_|refine sI ?_|refine sJ ?_);try simp only [jk,jl,jm,jn,if_true,if_false,jb])|refine sD ?_|refine sE ?_|refine sF rfl ?_|refine sG rfl ?_)
    exact ⟨_,_,_,Ghost.refl _ _,rfl,GhostV.refl _ _ _,rfl⟩
end Go.VL
end
