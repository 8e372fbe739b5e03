/- Proved: TreeTells: whatever tree, root, key and number come in (together of bulk at most 1048576), the call returns true and they read as they did; no other condition. This text is part 15 of 18. -/
import Derived.Test.YtghomgiklhbjiaaW14
set_option linter.unusedSimpArgs false
set_option linter.unusedVariables false
section
set_option maxRecDepth 10000
set_option maxHeartbeats 4000000
namespace Go.VL
open Go Go.Proofs
open Nat renaming reduceAdd → ja, reduceEqDiff → jb, reduceSub → jc, reduceMul → jd, reduceLeDiff → je, reduceBEq → jf, reduceLT → jg
open Int renaming reduceLT → jh, reduceLE → ji
open Go.VL renaming thenK → jk, blockK → jl, loopK → jm, loopG → jn
def di48_14:List DI:=[⟨[0],[],false,[0,1],some 149,[]⟩,⟨[0],[],false,[0],some 150,[]⟩,⟨[150],[1],false,[0],some 151,[1]⟩,⟨[151],[1,2],false,[0],some 152,[2]⟩,⟨[152],[1,2,3],false,[0],some 153,[3]⟩,⟨[10],[],false,[0],some 154,[]⟩,⟨[154],[5],false,[0],some 155,[5]⟩,⟨[153,155],rg 1 6,true,[],some 156,[4,6]⟩,⟨[149],rg 0 8,false,[1],some 157,([0] ++ rg 0 8)⟩,⟨[157],rg 0 9,false,[1],some 158,([8] ++ rg 0 8)⟩,⟨[156,158],rg 0 10,true,[],none,([9,7,7] ++ rg 0 8)⟩]
theorem BD.append {σ:List Ob} {a b i:Nat} {lo:Option Int} {d:DV} (h:BD σ a b i lo d) (l:List Ob):BD (σ ++ l) a b i lo d:=by
  cases lo with
  | none=>exact h
  | some k =>
    obtain ⟨id,h1,h2,h3,h4,h5⟩:=h
    exact ⟨id,h1,h2,h3,h4,by rw [List.getElem?_append_left (List.getElem?_eq_some_iff.1 h5).1]; exact h5⟩
theorem BD.new {σ:List Ob} {a b i:Nat} (h3:Three σ a b i) (k:Int) {l:List Ob} {m:Nat} (h:l[m]? = some (.arr 25 1 [.int .u64 k])):BD (σ ++ l) a b i (some k) (.sl (σ.length+m) 1 0 1):=by
  have h1:=h3.la
  have h2:=h3.lb
  have h4:=h3.lc
  exact ⟨σ.length+m,rfl,by omega,by omega,by omega,by rw [own_get]; exact h⟩
theorem rnode_ok (c:Nat) (ps:List Pg) (hps:ps.length≤2048) (a b i:Nat):∀ (n:Nat) (σ:List Ob),Three σ a b i→∀ (at_ level:Int) (lo hi:Option Int) (dlo dhi:DV) (w:WS),level+n = 17→0≤level→w.items.length+3 * 4 ^ n≤1000000000000 →
    (-9223372036854775808≤at_∧at_≤9223372036854775807)→BD σ a b i lo dlo→BD σ a b i hi dhi →
    Ok Try.prog 48 [.ptr a 1 0 0,.int .i64 at_,.int .i64 level,dlo,dhi] (rS σ a b i c ps w false)
      (.ret (.tup [])) (rS σ a b i c ps (rnodeF ps n at_ level lo hi w).1 (rnodeF ps n at_ level lo hi w).2):=by
  intro n
  induction n with
  | zero =>
    intro σ h3 at_ level lo hi dlo dhi w hlev hlev0 hit hat _ _
    simp only [rnodeF]
    exact rnodeBad_ok c ps hps σ a b i h3 at_ level dlo dhi w false hat (.inr (by omega))
  | succ n ih =>
    intro σ h3 at_ level lo hi dlo dhi w hlev hlev0 hit hat hblo hbhi
    by_cases hc:level≤16∧at_ > 0∧at_≤(ps.length:Int)∧at_ ∉ w.met
    rotate_left
    · simp only [rnodeF,if_neg hc]
      exact rnodeBad_ok c ps hps σ a b i h3 at_ level dlo dhi w false hat (.inr hc)
    obtain ⟨w1,hw1⟩:∃ w1:WS,w1 = ⟨w.met ++ [at_],w.items,w.leaf⟩:=⟨_,rfl⟩
    obtain ⟨pg,hpg⟩:∃ pg,pg = (ps[(at_ - 1).toNat]?).getD (0,[]):=⟨_,rfl⟩
    have hdl:=decodeF_len pg.2
    obtain ⟨dq,hdq⟩:∃ dq,dq = decodeF pg.2:=⟨_,rfl⟩
    have hdec:=refDecode_ok pg.1 pg.2
    have hnF:rnodeF ps (n+1) at_ level lo hi w = if dq.2 ≠ 0 then (w1,true) else if dq.1.1.all (inB lo hi) = false then (w1,true) else if dq.1.2.length = 0 then (⟨w1.met,w.items ++ dq.1.1,level⟩,decide (w.leaf > 0) && w.leaf != level) else rkidsF (fun k a b w=>rnodeF ps n k (level+1) a b w) dq.1.1 lo hi dq.1.2 0 (w1,false):=by
      rw [rnodeF,if_pos hc,hdq,hpg,hw1]
    have hdf:=fun h=>checkF_facts (decodeF_facts (bs:=pg.2) h)
    have hderr:=fun h=>decodeF_err (bs:=pg.2) h
    rw [← hdq] at hdl hdec hdf hderr
    obtain ⟨⟨xs,ks⟩,e⟩:=dq
    simp only at hdl hdec hnF hdf hderr
    obtain ⟨q,hq⟩:∃ q,q = rnodeF ps (n+1) at_ level lo hi w:=⟨_,rfl⟩
    rw [← hq] at hnF ⊢
    obtain ⟨Q,hQ⟩:∃ Q,Q = Tid (rS σ a b i c ps w false) 0 (fun o O=>o = .ret (.tup [])∧O = rS σ a b i c ps q.1 q.2):=⟨_,rfl⟩
    have qret:∀ (w':WS) (bad:Bool) (G:List Ob),q = (w',bad)→Q (.ret (.tup [])) (rS σ a b i c ps w' bad ++ G):=by
      intro w' bad G h
      rw [hQ]
      exact Tid.ret (rS_tidy h3 c ps w w' false bad) (.low (by simp [low_tup])) ⟨rfl,by rw [h]⟩
    refine OkE.ok (OkE.tidy (c:=0) (R:=fun o O=>o = .ret (.tup [])∧O = rS σ a b i c ps q.1 q.2) ?_) (fun o O h=>h)
    rw [← hQ]
    clear hQ
    obtain ⟨hc1,hc2,hc3,hc4⟩:=hc
    obtain ⟨X,hX⟩:∃ X,X = ps.map ePg:=⟨_,rfl⟩
    obtain ⟨PN,hPN⟩:∃ PN,PN = ps.length:=⟨_,rfl⟩
    have hXl:X.length = PN:=by rw [hX,List.length_map,hPN]
    obtain ⟨p,hp⟩:∃ p:Nat,at_ = ((p+1:Nat):Int):=⟨(at_ - 1).toNat,by omega⟩
    obtain ⟨M0,hM0⟩:∃ M0,M0 = metL ps.length w.met:=⟨_,rfl⟩
    have hM0l:M0.length = PN:=by rw [hM0,metL_length,hPN]
    have hqm:=metL_get (N:=ps.length) w.met (k:=p) (by omega)
    rw [← hp,decide_eq_false hc4,← hM0] at hqm
    obtain ⟨M1,hM1⟩:∃ M1,M1 = metL ps.length w1.met:=⟨_,rfl⟩
    have hM1l:M1.length = PN:=by rw [hM1,metL_length,hPN]
    have hset:=metL_set (N:=ps.length) w.met (k:=p) (by omega)
    rw [← hp,← hM0,show w.met ++ [at_] = w1.met by rw [hw1],← hM1] at hset
    have hp1:at_ - 1 = (p:Int):=by omega
    have wm1:IntKind.i64.wrap (at_ - 1) = (p:Int):=wi (by omega) hp1
    have e2:(0≤(p:Int)∧(p:Int) < (PN:Int)):=by omega
    have e2n:p+1≤PN:=by omega
    obtain ⟨A,hA⟩:∃ A,A = xs.map eT:=⟨_,rfl⟩
    obtain ⟨K,hK⟩:∃ K,K = ks.map eI:=⟨_,rfl⟩
    have hAl:A.length = xs.length:=by rw [hA,List.length_map]
    have hKl:K.length = ks.length:=by rw [hK,List.length_map]
    obtain ⟨PB,hPB⟩:∃ PB,PB = pg.2.map eB:=⟨_,rfl⟩
    have e3:X[p]?.getD .undef = .vec pg.1 1 PB:=by
      have hlt:p < ps.length:=by omega
      rw [hX,hPB,hpg,show (at_ - 1).toNat = p by omega]
      rw [List.getElem?_map,List.getElem?_eq_getElem hlt]
      rfl
    unfold nodeD at hdec
    rw [← hA,← hK,← hPB] at hdec
    have hrSw:∀ (x:Bool) (w':WS),w'.met = w1.met→rS σ a b i c ps w' x = s3 σ a b i (.arr 104 5 [.agg [.vec c 1 X,.sl b PN 0 PN,.sl i w'.items.length 0 w'.items.length,.int .i64 w'.leaf,.bool x]]) (.arr 4 1 M1) (.arr 27 2 (w'.items.map eT)):=by
      intro x w' h
      unfold rS rW rM wI pgsD
      rw [h,← hM1,← hX,← hPN]
    unfold rS rW rM wI pgsD
    obtain ⟨N,hN⟩:∃ N,N = w.items.length:=⟨_,rfl⟩
    obtain ⟨IX,hIX⟩:∃ IX,IX = w.items.map eT:=⟨_,rfl⟩
    have hIXl:IX.length = N:=by rw [hIX,hN,List.length_map]
    obtain ⟨LF,hLF⟩:∃ LF,LF = w.leaf:=⟨_,rfl⟩
    rw [← hX,← hM0,← hN,← hIX,← hPN,← hLF]
    have ga:=s3_a h3
    have gb:=s3_b h3
    have gc:=s3_c h3
    have ga0:=fun x y z=>by simpa using s3_a h3 x y z []
    have gb0:=fun x y z=>by simpa using s3_b h3 x y z []
    have sa:=s3_setA h3
    have sb0:=fun x y z x'=>by simpa using s3_setB h3 x y z x' []
    have sc:=s3_setC h3
    obtain ⟨nn,hnn⟩:∃ nn,nn = σ.length:=⟨_,rfl⟩
    have so:=fun x y z=>s3_own (a:=a) (b:=b) (c:=i) hnn x y z
    have so0:=fun x y z=>s3_own0 (a:=a) (b:=b) (c:=i) hnn x y z
    have ss:=fun x y z=>s3_set (a:=a) (b:=b) (c:=i) hnn x y z
    have ss0:=fun x y z=>s3_set0 (a:=a) (b:=b) (c:=i) hnn x y z
    have sl:∀ x y z,(s3 σ a b i x y z).length = nn:=fun x y z=>by rw [hnn]; exact s3_length x y z
    have d1:decide (level > 16) = false:=decide_eq_false (by omega)
    have d2:decide (at_ < 1) = false:=decide_eq_false (by omega)
    have d3:decide (at_ > (PN:Int)) = false:=decide_eq_false (by omega)
    have hS1:∀ x:Bool,s3 σ a b i (.arr 104 5 [.agg [.vec c 1 X,.sl b PN 0 PN,.sl i N 0 N,.int .i64 LF,.bool x]]) (.arr 4 1 M1) (.arr 27 2 IX) = rS σ a b i c ps w1 x:=fun x=>by
      rw [hrSw x w1 rfl,hw1,hN,hLF,hIX]
    clear hp hq
    refine OkE.of_body layOk Try.func48 rfl (by decide) (by simp [Try.ntmps48]) fun C hP hn hσ hfix hdd=>?_
    rw [show Try.f48.ntmps = 201 from rfl] at hn
    have hL:LayOk C.P L:=hP ▸ layOk
    have hm:C.P.follows .mixedOrders = true:=hP ▸ mixed
    repeat refine SW.seq ?_
    try refine SW.region ?_
    repeat (refine SWops.one hL (by rw [hn]; rfl) ?_; simp only [go_sem,jf,jh,ji,ja,jb,reduceIte,jc,jg,jd,je,reduceCtorEq,ga0,gb0,d1,d2,d3,hXl,wm1,e2,e2n,hqm,hM0l,Int.toNat_natCast]; refine (?_:SWops C _ _ _ _))
    repeat (first|((first|refine sA hL hn rfl ?_|refine sB hL hn rfl ?_);simp only [go_sem,jf,jh,ji,ja,jb,reduceIte,jc,jg,jd,je,reduceCtorEq,ga0,gb0,sb0,wm1,e2,e2n,hqm,hM0l,hXl,Int.toNat_natCast,List.headD_cons,hset,e3])|((first|refine sC ?_|refine sH ?_|refine sI ?_|refine sJ ?_);try simp only [jk,jl,jm,jn,if_true,if_false,jb])|refine sD ?_|refine sE ?_|refine sF rfl ?_|refine sG rfl ?_)
    refine sK hP hL hn rfl rfl (hdec _) rfl rfl rfl rfl ?_; simp (maxSteps:=2000000) only [go_sem,jf,jh,ji,ja,jb,reduceIte,jc,jg,jd,je,reduceCtorEq]
    by_cases he:e = 0
    rotate_left
    · have hx0:=hderr he
      have hxs:xs = []:=by have:=congrArg Prod.fst hx0; exact this
      have hAl0:A.length = 0:=by rw [hAl,hxs]; rfl
      rw [if_pos he] at hnF
      have d4:(e != 0) = true:=by simpa using he
      repeat (first|((first|refine sA hL hn rfl ?_|refine sB hL hn rfl ?_);simp only [go_sem,jf,jh,ji,ja,jb,reduceIte,jc,jg,jd,je,reduceCtorEq,so,so0,ss,ss0,sl,d4,ga,sa])|((first|refine sC ?_|refine sH ?_|refine sI ?_|refine sJ ?_);try simp only [jk,jl,jm,jn,if_true,if_false,jb])|refine sD ?_|refine sE ?_|refine sF rfl ?_|refine sG rfl ?_)
      refine SW.lpg (fun x:Nat=>⟨[(0,.ptr a 1 0 0),(10,.ptr nn 1 0 0),(12,.int .i64 0)],s3 σ a b i (Ob.arr 104 5 [.agg [.vec c 1 X,.sl b PN 0 PN,.sl i (N) 0 (N),.int .i64 LF,.bool true]]) (.arr 4 1 M1) (.arr 27 2 (IX)) ++ [Ob.arr 123 2 [.agg [.vec 0 2 A,.vec 0 1 K]]]⟩) (fun x=>x) (fun x=>True) 0 trivial (.of rfl (by simp [agree,lk])) ?_
      rintro k _
      have d5:decide ((0:Int) < ((0:Nat):Int)) = false:=rfl
      repeat (first|((first|refine sA hL hn rfl ?_|refine sB hL hn rfl ?_);simp only [go_sem,jf,jh,ji,ja,jb,reduceIte,jc,jg,jd,je,reduceCtorEq,so,so0,ss,ss0,sl,hAl0,d5,ga])|((first|refine sC ?_|refine sH ?_|refine sI ?_|refine sJ ?_);try simp only [jk,jl,jm,jn,if_true,if_false,jb])|refine sD ?_|refine sE ?_|refine sF rfl ?_|refine sG rfl ?_)
      rw [hS1]
      exact ⟨_,_,qret _ _ _ hnF,_,_,_,Ghost.refl _ _,rfl,GhostV.refl _ _ _,rfl⟩
    rw [if_neg (by simpa using he)] at hnF
    have d4:(e != 0) = false:=by simpa using he
    repeat (first|((first|refine sA hL hn rfl ?_|refine sB hL hn rfl ?_);simp only [go_sem,jf,jh,ji,ja,jb,reduceIte,jc,jg,jd,je,reduceCtorEq,so,so0,ss,ss0,sl,d4,ga,sa])|((first|refine sC ?_|refine sH ?_|refine sI ?_|refine sJ ?_);try simp only [jk,jl,jm,jn,if_true,if_false,jb])|refine sD ?_|refine sE ?_|refine sF rfl ?_|refine sG rfl ?_)
    refine SW.lpg (fun x:Nat × Bool=>⟨[(0,.ptr a 1 0 0),(2,.int .i64 level),(3,dlo),(4,dhi),(10,.ptr nn 1 0 0),(12,.int .i64 x.1)],s3 σ a b i (Ob.arr 104 5 [.agg [.vec c 1 X,.sl b PN 0 PN,.sl i (N) 0 (N),.int .i64 LF,.bool x.2]]) (.arr 4 1 M1) (.arr 27 2 (IX)) ++ [Ob.arr 123 2 [.agg [.vec 0 2 A,.vec 0 1 K]]]⟩) (fun x=>xs.length - x.1) (fun x=>x.1≤xs.length∧x.2 = !((xs.take x.1).all (inB lo hi))) (0,false) ⟨by simp,rfl⟩ (.of rfl (by simp [agree,lk])) ?_
    rintro ⟨k,bk⟩ ⟨hk,hbk⟩
    simp only at hk hbk
    by_cases hlt:k < xs.length
    · have e1:decide ((k:Int) < (xs.length:Int)) = true:=decide_eq_true (by omega)
      have e4:(0≤(k:Int)∧(k:Int) < (xs.length:Int)):=by omega
      obtain ⟨x,hx⟩:∃ x,x = xs[k]'hlt:=⟨_,rfl⟩
      have htk0:(xs.take (k+1)).all (inB lo hi) = ((xs.take k).all (inB lo hi) && inB lo hi x):=by
        rw [← List.take_append_getElem hlt,List.all_append,← hx]; simp
      obtain ⟨p1,p2⟩:=x
      have e5:A[k]?.getD .undef = .agg [.int .u64 p1,.int .u64 p2]:=by rw [hA]; simp [hlt,eT,← hx]
      have w2:IntKind.i64.wrap ((k:Int)+1) = ((k+1:Nat):Int):=wi (by omega) (by omega)
      iterate 7 (first|((first|refine sA hL hn rfl ?_|refine sB hL hn rfl ?_);simp only [go_sem,jf,jh,ji,ja,jb,reduceIte,jc,jg,jd,je,reduceCtorEq,e1,hAl,e4,e5,so,so0,ss,ss0,sl])|((first|refine sC ?_|refine sH ?_|refine sI ?_|refine sJ ?_);try simp only [jk,jl,jm,jn,if_true,if_false,jb])|refine sD ?_|refine sE ?_|refine sF rfl ?_|refine sG rfl ?_)
      have z01:((0:Int) < ((1:Nat):Int)) = True:=by decide
      have g10:decide (((1:Nat):Int) > 0) = true:=rfl
      have t0:Int.toNat 0 = 0:=rfl
      cases bk
      rotate_left
      · have hal:(xs.take k).all (inB lo hi) = false:=by simpa using hbk
        rw [hal,Bool.false_and] at htk0
        repeat refine SW.seq ?_
        try refine SW.region ?_
        repeat (refine SWops.one hL (by rw [hn]; rfl) ?_; simp only [go_sem,jf,jh,ji,ja,jb,reduceIte,jc,jg,jd,je,reduceCtorEq,ga,so,so0,ss,ss0,sl]; refine (?_:SWops C _ _ _ _))
        repeat (first|((first|refine sA hL hn rfl ?_|refine sB hL hn rfl ?_);simp only [go_sem,jf,jh,ji,ja,jb,reduceIte,jc,jg,jd,je,reduceCtorEq,ga,sa,w2,so,so0,ss,ss0,sl])|((first|refine sC ?_|refine sH ?_|refine sI ?_|refine sJ ?_);try simp only [jk,jl,jm,jn,if_true,if_false,jb])|refine sD ?_|refine sE ?_|refine sF rfl ?_|refine sG rfl ?_)
        exact Lp.nextg (k+1,true) ⟨by show k+1≤_; omega,by show _ = !_; rw [htk0]; rfl⟩ (by show xs.length - (k+1) < _; omega) (.of rfl (by simp [agree,lk]))
      · have hal:(xs.take k).all (inB lo hi) = true:=by simpa using hbk
        rw [hal,Bool.true_and] at htk0
        cases lo with
        | none =>
          obtain rfl:dlo = .nils:=hblo
          cases hi with
          | none =>
            obtain rfl:dhi = .nils:=hbhi
            have hb:inB none none (p1,p2) = true:=by simp [inB]
            rw [hb] at htk0
            repeat refine SW.seq ?_
            try refine SW.region ?_
            repeat (refine SWops.one hL (by rw [hn]; rfl) ?_; simp only [go_sem,jf,jh,ji,ja,jb,reduceIte,jc,jg,jd,je,reduceCtorEq,ga,so,so0,ss,ss0,sl]; refine (?_:SWops C _ _ _ _))
            repeat (first|((first|refine sA hL hn rfl ?_|refine sB hL hn rfl ?_);simp only [go_sem,jf,jh,ji,ja,jb,reduceIte,jc,jg,jd,je,reduceCtorEq,ga,sa,w2,so,so0,ss,ss0,sl])|((first|refine sC ?_|refine sH ?_|refine sI ?_|refine sJ ?_);try simp only [jk,jl,jm,jn,if_true,if_false,jb])|refine sD ?_|refine sE ?_|refine sF rfl ?_|refine sG rfl ?_)
            exact Lp.nextg (k+1,false) ⟨by show k+1≤_; omega,by show _ = !_; rw [htk0]; rfl⟩ (by show xs.length - (k+1) < _; omega) (.of rfl (by simp [agree,lk]))
          | some h =>
            obtain ⟨hid,rfl,h1,h2,h4,h5⟩:=hbhi
            have gh:=s3_other h1 h2 h4 h5
            cases hB:decide (p1 ≥ h)
            · have hB':decide (p1 < h) = true:=decide_eq_true (by have:=of_decide_eq_false hB; omega)
              have hb:inB none (some h) (p1,p2) = true:=by simp [inB,hB,hB']
              rw [hb] at htk0
              repeat refine SW.seq ?_
              try refine SW.region ?_
              repeat (refine SWops.one hL (by rw [hn]; rfl) ?_; simp only [go_sem,jf,jh,ji,ja,jb,reduceIte,jc,jg,jd,je,reduceCtorEq,ga,so,so0,ss,ss0,sl,gh,z01,g10,t0,hB,hB']; refine (?_:SWops C _ _ _ _))
              repeat (first|((first|refine sA hL hn rfl ?_|refine sB hL hn rfl ?_);simp only [go_sem,jf,jh,ji,ja,jb,reduceIte,jc,jg,jd,je,reduceCtorEq,ga,sa,w2,so,so0,ss,ss0,sl,gh,z01,g10,t0,hB,hB'])|((first|refine sC ?_|refine sH ?_|refine sI ?_|refine sJ ?_);try simp only [jk,jl,jm,jn,if_true,if_false,jb])|refine sD ?_|refine sE ?_|refine sF rfl ?_|refine sG rfl ?_)
              exact Lp.nextg (k+1,false) ⟨by show k+1≤_; omega,by show _ = !_; rw [htk0]; rfl⟩ (by show xs.length - (k+1) < _; omega) (.of rfl (by simp [agree,lk]))
            · have hB':decide (p1 < h) = false:=decide_eq_false (by have:=of_decide_eq_true hB; omega)
              have hb:inB none (some h) (p1,p2) = false:=by simp [inB,hB,hB']
              rw [hb] at htk0
              repeat refine SW.seq ?_
              try refine SW.region ?_
              repeat (refine SWops.one hL (by rw [hn]; rfl) ?_; simp only [go_sem,jf,jh,ji,ja,jb,reduceIte,jc,jg,jd,je,reduceCtorEq,ga,so,so0,ss,ss0,sl,gh,z01,g10,t0,hB,hB']; refine (?_:SWops C _ _ _ _))
              repeat (first|((first|refine sA hL hn rfl ?_|refine sB hL hn rfl ?_);simp only [go_sem,jf,jh,ji,ja,jb,reduceIte,jc,jg,jd,je,reduceCtorEq,ga,sa,w2,so,so0,ss,ss0,sl,gh,z01,g10,t0,hB,hB'])|((first|refine sC ?_|refine sH ?_|refine sI ?_|refine sJ ?_);try simp only [jk,jl,jm,jn,if_true,if_false,jb])|refine sD ?_|refine sE ?_|refine sF rfl ?_|refine sG rfl ?_)
              exact Lp.nextg (k+1,true) ⟨by show k+1≤_; omega,by show _ = !_; rw [htk0]; rfl⟩ (by show xs.length - (k+1) < _; omega) (.of rfl (by simp [agree,lk]))
        | some l =>
          obtain ⟨lid,rfl,l1,l2,l4,l5⟩:=hblo
          have gl:=s3_other l1 l2 l4 l5
          cases hA':decide (p1 < l)
          · have hA2:decide (p1 ≥ l) = true:=decide_eq_true (by have:=of_decide_eq_false hA'; omega)
            cases hi with
            | none =>
              obtain rfl:dhi = .nils:=hbhi
              have hb:inB (some l) none (p1,p2) = true:=by simp [inB,hA',hA2]
              rw [hb] at htk0
              repeat refine SW.seq ?_
              try refine SW.region ?_
              repeat (refine SWops.one hL (by rw [hn]; rfl) ?_; simp only [go_sem,jf,jh,ji,ja,jb,reduceIte,jc,jg,jd,je,reduceCtorEq,ga,so,so0,ss,ss0,sl,gl,z01,g10,t0,hA',hA2]; refine (?_:SWops C _ _ _ _))
              repeat (first|((first|refine sA hL hn rfl ?_|refine sB hL hn rfl ?_);simp only [go_sem,jf,jh,ji,ja,jb,reduceIte,jc,jg,jd,je,reduceCtorEq,ga,sa,w2,so,so0,ss,ss0,sl,gl,z01,g10,t0,hA',hA2])|((first|refine sC ?_|refine sH ?_|refine sI ?_|refine sJ ?_);try simp only [jk,jl,jm,jn,if_true,if_false,jb])|refine sD ?_|refine sE ?_|refine sF rfl ?_|refine sG rfl ?_)
              exact Lp.nextg (k+1,false) ⟨by show k+1≤_; omega,by show _ = !_; rw [htk0]; rfl⟩ (by show xs.length - (k+1) < _; omega) (.of rfl (by simp [agree,lk]))
            | some h =>
              obtain ⟨hid,rfl,h1,h2,h4,h5⟩:=hbhi
              have gh:=s3_other h1 h2 h4 h5
              cases hB:decide (p1 ≥ h)
              · have hB':decide (p1 < h) = true:=decide_eq_true (by have:=of_decide_eq_false hB; omega)
                have hb:inB (some l) (some h) (p1,p2) = true:=by simp [inB,hA',hA2,hB,hB']
                rw [hb] at htk0
                repeat refine SW.seq ?_
                try refine SW.region ?_
                repeat (refine SWops.one hL (by rw [hn]; rfl) ?_; simp only [go_sem,jf,jh,ji,ja,jb,reduceIte,jc,jg,jd,je,reduceCtorEq,ga,so,so0,ss,ss0,sl,gl,gh,z01,g10,t0,hA',hA2,hB,hB']; refine (?_:SWops C _ _ _ _))
                repeat (first|((first|refine sA hL hn rfl ?_|refine sB hL hn rfl ?_);simp only [go_sem,jf,jh,ji,ja,jb,reduceIte,jc,jg,jd,je,reduceCtorEq,ga,sa,w2,so,so0,ss,ss0,sl,gl,gh,z01,g10,t0,hA',hA2,hB,hB'])|((first|refine sC ?_|refine sH ?_|refine sI ?_|refine sJ ?_);try simp only [jk,jl,jm,jn,if_true,if_false,jb])|refine sD ?_|refine sE ?_|refine sF rfl ?_|refine sG rfl ?_)
                exact Lp.nextg (k+1,false) ⟨by show k+1≤_; omega,by show _ = !_; rw [htk0]; rfl⟩ (by show xs.length - (k+1) < _; omega) (.of rfl (by simp [agree,lk]))
              · have hB':decide (p1 < h) = false:=decide_eq_false (by have:=of_decide_eq_true hB; omega)
                have hb:inB (some l) (some h) (p1,p2) = false:=by simp [inB,hA',hA2,hB,hB']
                rw [hb] at htk0
                repeat refine SW.seq ?_
                try refine SW.region ?_
                repeat (refine SWops.one hL (by rw [hn]; rfl) ?_; simp only [go_sem,jf,jh,ji,ja,jb,reduceIte,jc,jg,jd,je,reduceCtorEq,ga,so,so0,ss,ss0,sl,gl,gh,z01,g10,t0,hA',hA2,hB,hB']; refine (?_:SWops C _ _ _ _))
                repeat (first|((first|refine sA hL hn rfl ?_|refine sB hL hn rfl ?_);simp only [go_sem,jf,jh,ji,ja,jb,reduceIte,jc,jg,jd,je,reduceCtorEq,ga,sa,w2,so,so0,ss,ss0,sl,gl,gh,z01,g10,t0,hA',hA2,hB,hB'])|((first|refine sC ?_|refine sH ?_|refine sI ?_|refine sJ ?_);try simp only [jk,jl,jm,jn,if_true,if_false,jb])|refine sD ?_|refine sE ?_|refine sF rfl ?_|refine sG rfl ?_)
                exact Lp.nextg (k+1,true) ⟨by show k+1≤_; omega,by show _ = !_; rw [htk0]; rfl⟩ (by show xs.length - (k+1) < _; omega) (.of rfl (by simp [agree,lk]))
          · have hA2:decide (p1 ≥ l) = false:=decide_eq_false (by have:=of_decide_eq_true hA'; omega)
            have hb:inB (some l) hi (p1,p2) = false:=by simp [inB,hA',hA2]
            rw [hb] at htk0
            repeat refine SW.seq ?_
            try refine SW.region ?_
            repeat (refine SWops.one hL (by rw [hn]; rfl) ?_; simp only [go_sem,jf,jh,ji,ja,jb,reduceIte,jc,jg,jd,je,reduceCtorEq,ga,so,so0,ss,ss0,sl,gl,z01,g10,t0,hA',hA2]; refine (?_:SWops C _ _ _ _))
            repeat (first|((first|refine sA hL hn rfl ?_|refine sB hL hn rfl ?_);simp only [go_sem,jf,jh,ji,ja,jb,reduceIte,jc,jg,jd,je,reduceCtorEq,ga,sa,w2,so,so0,ss,ss0,sl,gl,z01,g10,t0,hA',hA2])|((first|refine sC ?_|refine sH ?_|refine sI ?_|refine sJ ?_);try simp only [jk,jl,jm,jn,if_true,if_false,jb])|refine sD ?_|refine sE ?_|refine sF rfl ?_|refine sG rfl ?_)
            exact Lp.nextg (k+1,true) ⟨by show k+1≤_; omega,by show _ = !_; rw [htk0]; rfl⟩ (by show xs.length - (k+1) < _; omega) (.of rfl (by simp [agree,lk]))
    · have e1:decide ((k:Int) < (xs.length:Int)) = false:=decide_eq_false (by omega)
      obtain rfl:k = xs.length:=by omega
      rw [List.take_length] at hbk
      cases bk
      rotate_left
      · have hal:xs.all (inB lo hi) = false:=by simpa using hbk
        rw [if_pos hal] at hnF
        repeat (first|((first|refine sA hL hn rfl ?_|refine sB hL hn rfl ?_);simp only [go_sem,jf,jh,ji,ja,jb,reduceIte,jc,jg,jd,je,reduceCtorEq,e1,hAl,ga,so,so0,ss,ss0,sl])|((first|refine sC ?_|refine sH ?_|refine sI ?_|refine sJ ?_);try simp only [jk,jl,jm,jn,if_true,if_false,jb])|refine sD ?_|refine sE ?_|refine sF rfl ?_|refine sG rfl ?_)
        rw [hS1]
        exact ⟨_,_,qret _ _ _ hnF,_,_,_,Ghost.refl _ _,rfl,GhostV.refl _ _ _,rfl⟩
      have hal:xs.all (inB lo hi) = true:=by simpa using hbk
      rw [if_neg (by rw [hal]; simp)] at hnF
      obtain ⟨hf1,hf2,hf3,hf4⟩:=hdf he
      by_cases hk0:ks.length = 0
      · rw [if_pos hk0] at hnF
        have d5:(((ks.length:Nat):Int) == 0) = true:=by rw [hk0]; rfl
        rw [← hLF] at hnF
        have aA:(A.all fun y=>y.cells.all DV.one) = true:=by rw [hA]; exact all_eT xs
        simp only [DV.cells] at aA
        have hcap:((N+xs.length) * 16≤140737488355328) = True:=eq_true (by omega)
        have gz:(xs.length = 0) = False:=eq_false (by omega)
        have hfin:∀ bb:Bool,s3 σ a b i (Ob.arr 104 5 [.agg [.vec c 1 X,.sl b PN 0 PN,.sl i (N+xs.length) 0 (N+xs.length),.int .i64 level,.bool bb]]) (.arr 4 1 M1) (.arr 27 2 (IX ++ A)) = rS σ a b i c ps ⟨w1.met,w.items ++ xs,level⟩ bb:=by
          intro bb
          rw [hrSw bb ⟨w1.met,w.items ++ xs,level⟩ rfl,hN,hIX,hA]
          simp only [List.length_append,List.map_append]
        cases hg:decide (LF > 0)
        · rw [hg,Bool.false_and] at hnF
          repeat (first|((first|refine sA hL hn rfl ?_|refine sB hL hn rfl ?_);simp only [go_sem,jf,jh,ji,ja,jb,reduceIte,jc,jg,jd,je,reduceCtorEq,e1,hAl,ga,hKl,d5,hg,sa,so,so0,ss,ss0,sl])|((first|refine sC ?_|refine sH ?_|refine sI ?_|refine sJ ?_);try simp only [jk,jl,jm,jn,if_true,if_false,jb])|refine sD ?_|refine sE ?_|refine sF rfl ?_|refine sG rfl ?_)
          refine sM hL hm hn di48_14 [s3 σ a b i (Ob.arr 104 5 [.agg [.vec c 1 X,.sl b PN 0 PN,.sl i (N) 0 (N),.int .i64 level,.bool false]]) (.arr 4 1 M1) (.arr 27 2 (IX)) ++ [Ob.arr 123 2 [.agg [.vec 0 2 A,.vec 0 1 K]]],s3 σ a b i (Ob.arr 104 5 [.agg [.vec c 1 X,.sl b PN 0 PN,.sl i (N) 0 (N),.int .i64 level,.bool false]]) (.arr 4 1 M1) (.arr 27 2 (IX ++ A)) ++ [Ob.arr 123 2 [.agg [.vec 0 2 A,.vec 0 1 K]]],s3 σ a b i (Ob.arr 104 5 [.agg [.vec c 1 X,.sl b PN 0 PN,.sl i (N+xs.length) 0 (N+xs.length),.int .i64 level,.bool false]]) (.arr 4 1 M1) (.arr 27 2 (IX ++ A)) ++ [Ob.arr 123 2 [.agg [.vec 0 2 A,.vec 0 1 K]]]] rfl rfl rfl ?_
          unfold di48_14
          repeat (rw [dgo_cons]; simp (maxSteps:=2000000) only [go_sem,jf,jh,ji,ja,jb,reduceIte,jc,jg,jd,je,reduceCtorEq,ga,gc,so0,appDV,aA,hIXl,hAl,hcap,gz,sc,sa])
          try rw [dgo_nil]
          try simp only [go_sem,jf,jh,ji,ja,jb,reduceIte,jc,jg,jd,je,reduceCtorEq,ga,gc,so0,appDV,aA,hIXl,hAl,hcap,gz,sc,sa]
          repeat (first|((first|refine sA hL hn rfl ?_|refine sB hL hn rfl ?_);simp only [go_sem,jf,jh,ji,ja,jb,reduceIte,jc,jg,jd,je,reduceCtorEq])|((first|refine sC ?_|refine sH ?_|refine sI ?_|refine sJ ?_);try simp only [jk,jl,jm,jn,if_true,if_false,jb])|refine sD ?_|refine sE ?_|refine sF rfl ?_|refine sG rfl ?_)
          rw [hfin]
          exact ⟨_,_,qret _ _ _ hnF,_,_,_,Ghost.refl _ _,rfl,GhostV.refl _ _ _,rfl⟩
        · rw [hg,Bool.true_and] at hnF
          cases hne:(LF != level)
          all_goals
            rw [hne] at hnF
            repeat (first|((first|refine sA hL hn rfl ?_|refine sB hL hn rfl ?_);simp only [go_sem,jf,jh,ji,ja,jb,reduceIte,jc,jg,jd,je,reduceCtorEq,e1,hAl,ga,hKl,d5,hg,hne,sa,so,so0,ss,ss0,sl])|((first|refine sC ?_|refine sH ?_|refine sI ?_|refine sJ ?_);try simp only [jk,jl,jm,jn,if_true,if_false,jb])|refine sD ?_|refine sE ?_|refine sF rfl ?_|refine sG rfl ?_)
          · refine sM hL hm hn di48_14 [s3 σ a b i (Ob.arr 104 5 [.agg [.vec c 1 X,.sl b PN 0 PN,.sl i (N) 0 (N),.int .i64 level,.bool false]]) (.arr 4 1 M1) (.arr 27 2 (IX)) ++ [Ob.arr 123 2 [.agg [.vec 0 2 A,.vec 0 1 K]]],s3 σ a b i (Ob.arr 104 5 [.agg [.vec c 1 X,.sl b PN 0 PN,.sl i (N) 0 (N),.int .i64 level,.bool false]]) (.arr 4 1 M1) (.arr 27 2 (IX ++ A)) ++ [Ob.arr 123 2 [.agg [.vec 0 2 A,.vec 0 1 K]]],s3 σ a b i (Ob.arr 104 5 [.agg [.vec c 1 X,.sl b PN 0 PN,.sl i (N+xs.length) 0 (N+xs.length),.int .i64 level,.bool false]]) (.arr 4 1 M1) (.arr 27 2 (IX ++ A)) ++ [Ob.arr 123 2 [.agg [.vec 0 2 A,.vec 0 1 K]]]] rfl rfl rfl ?_
            unfold di48_14
            repeat (rw [dgo_cons]; simp (maxSteps:=2000000) only [go_sem,jf,jh,ji,ja,jb,reduceIte,jc,jg,jd,je,reduceCtorEq,ga,gc,so0,appDV,aA,hIXl,hAl,hcap,gz,sc,sa])
            try rw [dgo_nil]
            try simp only [go_sem,jf,jh,ji,ja,jb,reduceIte,jc,jg,jd,je,reduceCtorEq,ga,gc,so0,appDV,aA,hIXl,hAl,hcap,gz,sc,sa]
            repeat (first|((first|refine sA hL hn rfl ?_|refine sB hL hn rfl ?_);simp only [go_sem,jf,jh,ji,ja,jb,reduceIte,jc,jg,jd,je,reduceCtorEq])|((first|refine sC ?_|refine sH ?_|refine sI ?_|refine sJ ?_);try simp only [jk,jl,jm,jn,if_true,if_false,jb])|refine sD ?_|refine sE ?_|refine sF rfl ?_|refine sG rfl ?_)
            rw [hfin]
            exact ⟨_,_,qret _ _ _ hnF,_,_,_,Ghost.refl _ _,rfl,GhostV.refl _ _ _,rfl⟩
          · refine sM hL hm hn di48_14 [s3 σ a b i (Ob.arr 104 5 [.agg [.vec c 1 X,.sl b PN 0 PN,.sl i (N) 0 (N),.int .i64 level,.bool true]]) (.arr 4 1 M1) (.arr 27 2 (IX)) ++ [Ob.arr 123 2 [.agg [.vec 0 2 A,.vec 0 1 K]]],s3 σ a b i (Ob.arr 104 5 [.agg [.vec c 1 X,.sl b PN 0 PN,.sl i (N) 0 (N),.int .i64 level,.bool true]]) (.arr 4 1 M1) (.arr 27 2 (IX ++ A)) ++ [Ob.arr 123 2 [.agg [.vec 0 2 A,.vec 0 1 K]]],s3 σ a b i (Ob.arr 104 5 [.agg [.vec c 1 X,.sl b PN 0 PN,.sl i (N+xs.length) 0 (N+xs.length),.int .i64 level,.bool true]]) (.arr 4 1 M1) (.arr 27 2 (IX ++ A)) ++ [Ob.arr 123 2 [.agg [.vec 0 2 A,.vec 0 1 K]]]] rfl rfl rfl ?_
            unfold di48_14
            repeat (rw [dgo_cons]; simp (maxSteps:=2000000) only [go_sem,jf,jh,ji,ja,jb,reduceIte,jc,jg,jd,je,reduceCtorEq,ga,gc,so0,appDV,aA,hIXl,hAl,hcap,gz,sc,sa])
            try rw [dgo_nil]
            try simp only [go_sem,jf,jh,ji,ja,jb,reduceIte,jc,jg,jd,je,reduceCtorEq,ga,gc,so0,appDV,aA,hIXl,hAl,hcap,gz,sc,sa]
            repeat (first|((first|refine sA hL hn rfl ?_|refine sB hL hn rfl ?_);simp only [go_sem,jf,jh,ji,ja,jb,reduceIte,jc,jg,jd,je,reduceCtorEq])|((first|refine sC ?_|refine sH ?_|refine sI ?_|refine sJ ?_);try simp only [jk,jl,jm,jn,if_true,if_false,jb])|refine sD ?_|refine sE ?_|refine sF rfl ?_|refine sG rfl ?_)
            rw [hfin]
            exact ⟨_,_,qret _ _ _ hnF,_,_,_,Ghost.refl _ _,rfl,GhostV.refl _ _ _,rfl⟩
      · rw [if_neg hk0] at hnF
        have hkx:ks.length = xs.length+1:=by omega
        have d5:(((ks.length:Nat):Int) == 0) = false:=beq_eq_false_iff_ne.2 (by omega)
        have soW:∀ (w:WS) (x:Bool) (l:List Ob) (k:Nat),(rS σ a b i c ps w x ++ l)[nn+k]? = l[k]?:=fun w x l k=>s3_own hnn _ _ _ l k
        have soW0:∀ (w:WS) (x:Bool) (l:List Ob),(rS σ a b i c ps w x ++ l)[nn]? = l[0]?:=fun w x l=>s3_own0 hnn _ _ _ l
        have slW:∀ (w:WS) (x:Bool),(rS σ a b i c ps w x).length = nn:=fun w x=>by rw [hnn]; exact s3_length _ _ _
        have hp4:4 ^ (n+1) = 4 ^ n * 4:=Nat.pow_succ ..
        obtain ⟨B,hB⟩:∃ B,B = 3 * 4 ^ n:=⟨_,rfl⟩
        have hit1:w1.items.length+B * ks.length≤1000000000000:=by
          have:B * ks.length≤B * 4:=Nat.mul_le_mul_left _ hdl.2
          rw [hw1]
          show w.items.length+_≤_
          omega
        have wl:IntKind.i64.wrap (level+1) = level+1:=wi (by omega) rfl
        repeat (first|((first|refine sA hL hn rfl ?_|refine sB hL hn rfl ?_);simp only [go_sem,jf,jh,ji,ja,jb,reduceIte,jc,jg,jd,je,reduceCtorEq,e1,hAl,ga,hKl,d5,so,so0,ss,ss0,sl])|((first|refine sC ?_|refine sH ?_|refine sI ?_|refine sJ ?_);try simp only [jk,jl,jm,jn,if_true,if_false,jb])|refine sD ?_|refine sE ?_|refine sF rfl ?_|refine sG rfl ?_)
        refine SW.lpg (fun x:Nat × (WS × Bool) × List Ob=>⟨[(0,.ptr a 1 0 0),(2,.int .i64 level),(3,dlo),(4,dhi),(10,.ptr nn 1 0 0),(14,.int .i64 x.1)],rS σ a b i c ps x.2.1.1 x.2.1.2 ++ (Ob.arr 123 2 [.agg [.vec 0 2 A,.vec 0 1 K]] :: x.2.2)⟩) (fun x=>ks.length - x.1) (fun x=>x.1≤ks.length∧q = rkidsF (fun k a b w=>rnodeF ps n k (level+1) a b w) xs lo hi (ks.drop x.1) x.1 x.2.1∧x.2.1.1.items.length+B * (ks.length - x.1)≤1000000000000) (0,(w1,false),[]) ⟨by simp,hnF,hit1⟩ (.of (by rw [hS1]) (by simp [agree,lk])) ?_
        rintro ⟨k,⟨wk,bk⟩,T⟩ ⟨hk,hrest,hitk⟩
        simp only at hk hrest hitk
        by_cases hlt:k < ks.length
        · have e1:decide ((k:Int) < (ks.length:Int)) = true:=decide_eq_true (by omega)
          have e4:(0≤(k:Int)∧(k:Int) < (ks.length:Int)):=by omega
          obtain ⟨p,hp⟩:∃ p,p = ks[k]'hlt:=⟨_,rfl⟩
          have hpr:=hf4 p (by rw [hp]; exact List.getElem_mem hlt)
          have e5:K[k]?.getD .undef = .int .i64 p:=by rw [hK]; simp [hlt,eI,← hp]
          have w2:IntKind.i64.wrap ((k:Int)+1) = ((k+1:Nat):Int):=wi (by omega) (by omega)
          rw [List.drop_eq_getElem_cons hlt,← hp] at hrest
          simp only [rkidsF] at hrest
          obtain ⟨lo',hlo'⟩:∃ lo',lo' = if 0 < k then (xs[k - 1]?).map (·.1) else lo:=⟨_,rfl⟩
          obtain ⟨hi',hhi'⟩:∃ hi',hi' = if k < xs.length then (xs[k]?).map (·.1) else hi:=⟨_,rfl⟩
          rw [← hlo',← hhi'] at hrest
          obtain ⟨q',hq'⟩:∃ q',q' = if bk = true then (wk,bk) else rnodeF ps n p (level+1) lo' hi' wk:=⟨_,rfl⟩
          rw [← hq'] at hrest
          have hBe:B * (ks.length - k) = B * (ks.length - (k+1))+B:=by rw [show ks.length - k = (ks.length - (k+1))+1 by omega,Nat.mul_add,Nat.mul_one]
          have hq'l:q'.1.items.length≤wk.items.length+B:=by
            rw [hq']
            split
            · show wk.items.length≤_; omega
            · rw [hB]; exact rnodeF_len ps n p (level+1) lo' hi' wk
          have hcall:∀ (T':List Ob) (d1 d2:DV),BD (σ ++ (Ob.arr 123 2 [.agg [.vec 0 2 A,.vec 0 1 K]] :: T')) a b i lo' d1→BD (σ ++ (Ob.arr 123 2 [.agg [.vec 0 2 A,.vec 0 1 K]] :: T')) a b i hi' d2 →
              Ok Try.prog 48 [.ptr a 1 0 0,.int .i64 p,.int .i64 (level+1),d1,d2] (rS σ a b i c ps wk bk ++ (Ob.arr 123 2 [.agg [.vec 0 2 A,.vec 0 1 K]] :: T')) (.ret (.tup [])) (rS σ a b i c ps q'.1 q'.2 ++ (Ob.arr 123 2 [.agg [.vec 0 2 A,.vec 0 1 K]] :: T')):=by
            intro T' d1 d2 hd1 hd2
            rw [hq']
            cases bk
            · have:=ih (σ ++ (Ob.arr 123 2 [.agg [.vec 0 2 A,.vec 0 1 K]] :: T')) (h3.append _) p (level+1) lo' hi' d1 d2 wk (by omega) (by omega) (by rw [← hB]; omega) (by omega) hd1 hd2
              rw [rS_append h3,rS_append h3] at this
              exact this
            · have:=rnodeBad_ok c ps hps (σ ++ (Ob.arr 123 2 [.agg [.vec 0 2 A,.vec 0 1 K]] :: T')) a b i (h3.append _) p (level+1) d1 d2 wk true (by omega) (.inl rfl)
              rw [rS_append h3] at this
              exact this
          have hlo:(decide ((k:Int) > 0) = false∧lo' = lo)∨∃ (j:Nat) (pk:It),IntKind.i64.wrap (((k:Nat):Int) - 1) = (j:Int)∧(0≤(j:Int)∧(j:Int) < (xs.length:Int))∧decide ((k:Int) > 0) = true∧A[j]?.getD .undef = .agg [.int .u64 pk.1,.int .u64 pk.2]∧lo' = some pk.1:=by
            by_cases h0:0 < k
            · right
              obtain ⟨pv,hpv⟩:∃ pv,xs[k - 1]? = some pv:=⟨_,List.getElem?_eq_getElem (by omega)⟩
              refine ⟨k - 1,pv,wi (by omega) (by omega),by omega,decide_eq_true (by omega),?_,?_⟩
              · rw [hA,List.getElem?_map,hpv]; rfl
              · rw [hlo',if_pos h0,hpv]; rfl
            · left
              exact ⟨decide_eq_false (by omega),by rw [hlo',if_neg h0]⟩
          have hhi:(decide ((k:Int) < (xs.length:Int)) = false∧hi' = hi)∨∃ pk:It,decide ((k:Int) < (xs.length:Int)) = true∧(0≤(k:Int)∧(k:Int) < (xs.length:Int))∧A[k]?.getD .undef = .agg [.int .u64 pk.1,.int .u64 pk.2]∧hi' = some pk.1:=by
            by_cases h0:k < xs.length
            · right
              obtain ⟨pv,hpv⟩:∃ pv,xs[k]? = some pv:=⟨_,List.getElem?_eq_getElem h0⟩
              refine ⟨pv,decide_eq_true (by omega),by omega,?_,?_⟩
              · rw [hA,List.getElem?_map,hpv]; rfl
              · rw [hhi',if_pos h0,hpv]; rfl
            · left
              exact ⟨decide_eq_false (by omega),by rw [hhi',if_neg h0]⟩
          simp only
          rcases hlo with ⟨l1,l2⟩ | ⟨j,pk,wj,l4,l1,l3,l2⟩ <;> rcases hhi with ⟨r1,r2⟩ | ⟨pk2,r1,r4,r3,r2⟩
          · skip
            have hb1:BD (σ ++ (Ob.arr 123 2 [.agg [.vec 0 2 A,.vec 0 1 K]] :: T)) a b i lo' (dlo):=by rw [l2]; exact hblo.append _
            have hb2:BD (σ ++ (Ob.arr 123 2 [.agg [.vec 0 2 A,.vec 0 1 K]] :: T)) a b i hi' (dhi):=by rw [r2]; exact hbhi.append _
            have hcall:=hcall T _ _ hb1 hb2
            repeat (first|((first|refine sA hL hn rfl ?_|refine sB hL hn rfl ?_);simp only [go_sem,jf,jh,ji,ja,jb,reduceIte,jc,jg,jd,je,reduceCtorEq,e1,hKl,hAl,e4,e5,soW,soW0,slW,w2,wl,l1,r1])|((first|refine sC ?_|refine sH ?_|refine sI ?_|refine sJ ?_);try simp only [jk,jl,jm,jn,if_true,if_false,jb])|refine sD ?_|refine sE ?_|refine sF rfl ?_|refine sG rfl ?_)
            refine sK hP hL hn rfl rfl (hcall) rfl rfl rfl rfl ?_; simp (maxSteps:=2000000) only [go_sem,jf,jh,ji,ja,jb,reduceIte,jc,jg,jd,je,reduceCtorEq,w2]
            repeat (first|((first|refine sA hL hn rfl ?_|refine sB hL hn rfl ?_);simp only [go_sem,jf,jh,ji,ja,jb,reduceIte,jc,jg,jd,je,reduceCtorEq,w2])|((first|refine sC ?_|refine sH ?_|refine sI ?_|refine sJ ?_);try simp only [jk,jl,jm,jn,if_true,if_false,jb])|refine sD ?_|refine sE ?_|refine sF rfl ?_|refine sG rfl ?_)
            exact Lp.nextg (k+1,q',T) ⟨by show k+1≤_; omega,hrest,by show q'.1.items.length+B * (ks.length - (k+1))≤_; omega⟩ (by show ks.length - (k+1) < _; omega) (.of rfl (by simp [agree,lk]))
          · skip
            have hb1:BD (σ ++ (Ob.arr 123 2 [.agg [.vec 0 2 A,.vec 0 1 K]] :: (T ++ [Ob.arr 25 1 [.int .u64 pk2.1]]))) a b i lo' (dlo):=by rw [l2]; exact hblo.append _
            have hb2:BD (σ ++ (Ob.arr 123 2 [.agg [.vec 0 2 A,.vec 0 1 K]] :: (T ++ [Ob.arr 25 1 [.int .u64 pk2.1]]))) a b i hi' (.sl (nn+(T.length+1)) 1 0 1):=by rw [r2,hnn]; exact BD.new h3 _ (by simp)
            have hcall:=hcall (T ++ [Ob.arr 25 1 [.int .u64 pk2.1]]) _ _ hb1 hb2
            repeat (first|((first|refine sA hL hn rfl ?_|refine sB hL hn rfl ?_);simp only [go_sem,jf,jh,ji,ja,jb,reduceIte,jc,jg,jd,je,reduceCtorEq,e1,hKl,hAl,e4,e5,soW,soW0,slW,w2,wl,l1,r1,r4,r3])|((first|refine sC ?_|refine sH ?_|refine sI ?_|refine sJ ?_);try simp only [jk,jl,jm,jn,if_true,if_false,jb])|refine sD ?_|refine sE ?_|refine sF rfl ?_|refine sG rfl ?_)
            refine sK hP hL hn rfl rfl (hcall) rfl rfl rfl rfl ?_; simp (maxSteps:=2000000) only [go_sem,jf,jh,ji,ja,jb,reduceIte,jc,jg,jd,je,reduceCtorEq,w2]
            repeat (first|((first|refine sA hL hn rfl ?_|refine sB hL hn rfl ?_);simp only [go_sem,jf,jh,ji,ja,jb,reduceIte,jc,jg,jd,je,reduceCtorEq,w2])|((first|refine sC ?_|refine sH ?_|refine sI ?_|refine sJ ?_);try simp only [jk,jl,jm,jn,if_true,if_false,jb])|refine sD ?_|refine sE ?_|refine sF rfl ?_|refine sG rfl ?_)
            exact Lp.nextg (k+1,q',(T ++ [Ob.arr 25 1 [.int .u64 pk2.1]])) ⟨by show k+1≤_; omega,hrest,by show q'.1.items.length+B * (ks.length - (k+1))≤_; omega⟩ (by show ks.length - (k+1) < _; omega) (.of rfl (by simp [agree,lk]))
          · skip
            have hb1:BD (σ ++ (Ob.arr 123 2 [.agg [.vec 0 2 A,.vec 0 1 K]] :: (T ++ [Ob.arr 25 1 [.int .u64 pk.1]]))) a b i lo' (.sl (nn+(T.length+1)) 1 0 1):=by rw [l2,hnn]; exact BD.new h3 _ (by simp)
            have hb2:BD (σ ++ (Ob.arr 123 2 [.agg [.vec 0 2 A,.vec 0 1 K]] :: (T ++ [Ob.arr 25 1 [.int .u64 pk.1]]))) a b i hi' (dhi):=by rw [r2]; exact hbhi.append _
            have hcall:=hcall (T ++ [Ob.arr 25 1 [.int .u64 pk.1]]) _ _ hb1 hb2
            repeat (first|((first|refine sA hL hn rfl ?_|refine sB hL hn rfl ?_);simp only [go_sem,jf,jh,ji,ja,jb,reduceIte,jc,jg,jd,je,reduceCtorEq,e1,hKl,hAl,e4,e5,soW,soW0,slW,w2,wl,l1,wj,l4,l3,r1])|((first|refine sC ?_|refine sH ?_|refine sI ?_|refine sJ ?_);try simp only [jk,jl,jm,jn,if_true,if_false,jb])|refine sD ?_|refine sE ?_|refine sF rfl ?_|refine sG rfl ?_)
            refine sK hP hL hn rfl rfl (hcall) rfl rfl rfl rfl ?_; simp (maxSteps:=2000000) only [go_sem,jf,jh,ji,ja,jb,reduceIte,jc,jg,jd,je,reduceCtorEq,w2]
            repeat (first|((first|refine sA hL hn rfl ?_|refine sB hL hn rfl ?_);simp only [go_sem,jf,jh,ji,ja,jb,reduceIte,jc,jg,jd,je,reduceCtorEq,w2])|((first|refine sC ?_|refine sH ?_|refine sI ?_|refine sJ ?_);try simp only [jk,jl,jm,jn,if_true,if_false,jb])|refine sD ?_|refine sE ?_|refine sF rfl ?_|refine sG rfl ?_)
            exact Lp.nextg (k+1,q',(T ++ [Ob.arr 25 1 [.int .u64 pk.1]])) ⟨by show k+1≤_; omega,hrest,by show q'.1.items.length+B * (ks.length - (k+1))≤_; omega⟩ (by show ks.length - (k+1) < _; omega) (.of rfl (by simp [agree,lk]))
          · skip
            have hb1:BD (σ ++ (Ob.arr 123 2 [.agg [.vec 0 2 A,.vec 0 1 K]] :: (T ++ [Ob.arr 25 1 [.int .u64 pk.1],Ob.arr 25 1 [.int .u64 pk2.1]]))) a b i lo' (.sl (nn+(T.length+1)) 1 0 1):=by rw [l2,hnn]; exact BD.new h3 _ (by simp)
            have hb2:BD (σ ++ (Ob.arr 123 2 [.agg [.vec 0 2 A,.vec 0 1 K]] :: (T ++ [Ob.arr 25 1 [.int .u64 pk.1],Ob.arr 25 1 [.int .u64 pk2.1]]))) a b i hi' (.sl (nn+(T.length+2)) 1 0 1):=by rw [r2,hnn]; exact BD.new h3 _ (by simp)
            have hcall:=hcall (T ++ [Ob.arr 25 1 [.int .u64 pk.1],Ob.arr 25 1 [.int .u64 pk2.1]]) _ _ hb1 hb2
            repeat (first|((first|refine sA hL hn rfl ?_|refine sB hL hn rfl ?_);simp only [go_sem,jf,jh,ji,ja,jb,reduceIte,jc,jg,jd,je,reduceCtorEq,e1,hKl,hAl,e4,e5,soW,soW0,slW,w2,wl,l1,wj,l4,l3,r1,r4,r3])|((first|refine sC ?_|refine sH ?_|refine sI ?_|refine sJ ?_);try simp only [jk,jl,jm,jn,if_true,if_false,jb])|refine sD ?_|refine sE ?_|refine sF rfl ?_|refine sG rfl ?_)
            refine sK hP hL hn rfl rfl (hcall) rfl rfl rfl rfl ?_; simp (maxSteps:=2000000) only [go_sem,jf,jh,ji,ja,jb,reduceIte,jc,jg,jd,je,reduceCtorEq,w2]
            repeat (first|((first|refine sA hL hn rfl ?_|refine sB hL hn rfl ?_);simp only [go_sem,jf,jh,ji,ja,jb,reduceIte,jc,jg,jd,je,reduceCtorEq,w2])|((first|refine sC ?_|refine sH ?_|refine sI ?_|refine sJ ?_);try simp only [jk,jl,jm,jn,if_true,if_false,jb])|refine sD ?_|refine sE ?_|refine sF rfl ?_|refine sG rfl ?_)
            exact Lp.nextg (k+1,q',(T ++ [Ob.arr 25 1 [.int .u64 pk.1],Ob.arr 25 1 [.int .u64 pk2.1]])) ⟨by show k+1≤_; omega,hrest,by show q'.1.items.length+B * (ks.length - (k+1))≤_; omega⟩ (by show ks.length - (k+1) < _; omega) (.of rfl (by simp [agree,lk]))
        · have e1:decide ((k:Int) < (ks.length:Int)) = false:=decide_eq_false (by omega)
          rw [List.drop_of_length_le (by omega)] at hrest
          simp only [rkidsF] at hrest
          repeat (first|((first|refine sA hL hn rfl ?_|refine sB hL hn rfl ?_);simp only [go_sem,jf,jh,ji,ja,jb,reduceIte,jc,jg,jd,je,reduceCtorEq,e1,hKl,soW,soW0])|((first|refine sC ?_|refine sH ?_|refine sI ?_|refine sJ ?_);try simp only [jk,jl,jm,jn,if_true,if_false,jb])|refine sD ?_|refine sE ?_|refine sF rfl ?_|refine sG rfl ?_)
          exact ⟨_,_,qret _ _ _ hrest,_,_,_,Ghost.refl _ _,rfl,GhostV.refl _ _ _,rfl⟩
end Go.VL
end
section
set_option maxRecDepth 10000
set_option maxHeartbeats 4000000
namespace Go.VL
open Go Go.Proofs
open Nat renaming reduceAdd → ja, reduceEqDiff → jb, reduceSub → jc, reduceMul → jd, reduceLeDiff → je, reduceBEq → jf, reduceLT → jg
open Int renaming reduceLT → jh, reduceLE → ji
open Go.VL renaming thenK → jk, blockK → jl, loopK → jm, loopG → jn
def di33_5:List DI:=[⟨[2],[],false,[0,1],some 16,[]⟩,⟨[2],[],false,[0],some 17,[]⟩,⟨[17],[1],false,[0],some 18,[1]⟩,⟨[18],[1,2],false,[0],some 19,[2]⟩,⟨[19],[1,2,3],true,[],some 20,[3,3]⟩,⟨[16,20],rg 0 5,false,[1],some 21,[0,4]⟩,⟨[21],rg 0 6,true,[],some 22,[5]⟩,⟨[22],rg 0 7,false,[2],some 7,([6] ++ rg 0 7)⟩]
def refReadF (ps:List Pg) (root:Int):List It × List Int × Int :=
  if (treeF ps root).2 ≠ 0 then ([],[],(treeF ps root).2) else ((treeF ps root).1.items,metTo (treeF ps root).1.met ps.length,0)
theorem metTo_nil (n:Nat):metTo [] n = []:=by simp [metTo]
theorem treeF_cases (ps:List Pg) (root:Int):(2048 < ps.length∧refReadF ps root = ([],[],3))∨(¬ 2048 < ps.length∧root = 0∧refReadF ps root = ([],[],0)) ∨
    (¬ 2048 < ps.length∧root ≠ 0∧(((rnodeF ps 16 root 1 none none w0).2 = true∧refReadF ps root = ([],[],9))∨((rnodeF ps 16 root 1 none none w0).2 = false∧refReadF ps root = ((rnodeF ps 16 root 1 none none w0).1.items,metTo (rnodeF ps 16 root 1 none none w0).1.met ps.length,0)))):=by
  have hagree:=node_agree ps 16 root 1 none none w0 (by decide) (by decide)
  unfold refReadF treeF
  by_cases h1:2048 < ps.length
  · left; simp [h1]
  · right
    by_cases h2:root = 0
    · left
      refine ⟨h1,h2,?_⟩
      simp [h1,h2,w0,metTo_nil]
    · right
      refine ⟨h1,h2,?_⟩
      simp only [h1,h2,if_false]
      rcases hagree with ⟨g1,g2,_⟩ | ⟨g1,g2⟩
      · right
        rw [g2]
        simp [g1]
      · left
        simp [g1,g2]
theorem refRead_ok (c:Nat) (ps:List Pg) (root:Int) (hroot:-9223372036854775808≤root∧root≤9223372036854775807) (σ:List Ob) :
    Ok Try.prog 33 [.agg [pgsD c ps],.int .i64 root] σ (.ret (.tup [.vec 0 2 ((refReadF ps root).1.map eT),.vec 0 1 ((refReadF ps root).2.1.map eI),.int .i64 (refReadF ps root).2.2])) σ:=by
  have hcs:=treeF_cases ps root
  have hlow:=low_pgs 0 c ps
  obtain ⟨R,hR⟩:∃ R,R = DV.tup [.vec 0 2 ((refReadF ps root).1.map eT),.vec 0 1 ((refReadF ps root).2.1.map eI),.int .i64 (refReadF ps root).2.2]:=⟨_,rfl⟩
  rw [← hR]
  refine (OkE.thaw (c:=0) (R:=fun D=>D = R) ?_ (by simp [lk,low_int,low_bool,low_str,low_nils,low_nilp,low_nilf,low_nili,low_undef,low_skip,low_vec,low_agg,low_tup,low_fn,low_vptr,low_iface,low_ptr,low_sl,low_mp,low_it,low_yld,low_emp,lowEnv,lowObs,lowOb,tmpObs,isArr,hlow]) σ).ok fun o σ' ⟨e,D',e1,e2⟩=>by subst e2; exact ⟨e1,e⟩
  have fin:∀ (O:List Ob) (d1 d2:DV) (e:Int) (l1:List It) (l2:List Int),refReadF ps root = (l1,l2,e)→Fz O 0 d1 (.vec 0 2 (l1.map eT))→Fz O 0 d2 (.vec 0 1 (l2.map eI))→∃ d D,Out.ret (.tup [d1,d2,.int .i64 e]) = .ret d∧Fz O 0 d D∧D = R:=by
    intro O d1 d2 e l1 l2 h h1 h2
    refine ⟨_,R,rfl,?_,rfl⟩
    rw [hR,h]
    refine .tup rfl fun i x y hx hy=>?_
    match i,hx,hy with
    | 0,hx,hy=>cases hx; cases hy; exact h1
    | 1,hx,hy=>cases hx; cases hy; exact h2
    | 2,hx,hy=>cases hx; cases hy; exact .int
    | i+3,hx,_=>simp at hx
  obtain ⟨PG,hPG⟩:∃ PG,PG = pgsD c ps:=⟨_,rfl⟩
  obtain ⟨X,hX⟩:∃ X,X = ps.map ePg:=⟨_,rfl⟩
  have hPX:pgsD c ps = .vec c 1 X:=by rw [hX]; rfl
  obtain ⟨PN,hPN⟩:∃ PN,PN = ps.length:=⟨_,rfl⟩
  have hXl:X.length = PN:=by rw [hX,List.length_map,hPN]
  rw [hPX]
  rw [← hPN] at hcs
  rcases hcs with ⟨h1,h2⟩ | ⟨h1,h0,h2⟩ | ⟨h1,h0,h2⟩
  · have d1:decide ((PN:Int) > 2048) = true:=decide_eq_true (by omega)
    refine OkE.of_body layOk Try.func33 rfl (by decide) (by simp [Try.ntmps33]) fun C hP hn hσ hfix hdd=>?_
    rw [show Try.f33.ntmps = 56 from rfl] at hn
    have hL:LayOk C.P L:=hP ▸ layOk
    have hm:C.P.follows .mixedOrders = true:=hP ▸ mixed
    repeat (first|((first|refine sA hL hn rfl ?_|refine sB hL hn rfl ?_);simp only [go_sem,jf,jh,ji,ja,jb,reduceIte,jc,jg,jd,je,reduceCtorEq,hXl,d1])|((first|refine sC ?_|refine sH ?_|refine sI ?_|refine sJ ?_);try simp only [jk,jl,jm,jn,if_true,if_false,jb])|refine sD ?_|refine sE ?_|refine sF rfl ?_|refine sG rfl ?_)
    refine ⟨_,_,?_,_,(.tup [.nils,.nils,.int .i64 3]),_,Ghost.refl _ _,?_,GhostV.refl _ _ _,rfl⟩
    rotate_left
    show resDV L _ [Go.ResultVar.tmp 4,Go.ResultVar.tmp 5,Go.ResultVar.tmp 6] = _
    simp only [resDV,resL,resDV1,go_sem,jf,jh,ji,ja,jb,reduceIte,jc,jg,jd,je,reduceCtorEq]
    exact fin _ _ _ 3 [] [] h2 .nil .nil
  · have d1:decide ((PN:Int) > 2048) = false:=decide_eq_false (by omega)
    have d2:(root == 0) = true:=by simpa using h0
    refine OkE.of_body layOk Try.func33 rfl (by decide) (by simp [Try.ntmps33]) fun C hP hn hσ hfix hdd=>?_
    rw [show Try.f33.ntmps = 56 from rfl] at hn
    have hL:LayOk C.P L:=hP ▸ layOk
    have hm:C.P.follows .mixedOrders = true:=hP ▸ mixed
    repeat (first|((first|refine sA hL hn rfl ?_|refine sB hL hn rfl ?_);simp only [go_sem,jf,jh,ji,ja,jb,reduceIte,jc,jg,jd,je,reduceCtorEq,hXl,d1,d2])|((first|refine sC ?_|refine sH ?_|refine sI ?_|refine sJ ?_);try simp only [jk,jl,jm,jn,if_true,if_false,jb])|refine sD ?_|refine sE ?_|refine sF rfl ?_|refine sG rfl ?_)
    refine ⟨_,_,?_,_,(.tup [.nils,.nils,.int .i64 0]),_,Ghost.refl _ _,?_,GhostV.refl _ _ _,rfl⟩
    rotate_left
    show resDV L _ [Go.ResultVar.tmp 4,Go.ResultVar.tmp 5,Go.ResultVar.tmp 6] = _
    simp only [resDV,resL,resDV1,go_sem,jf,jh,ji,ja,jb,reduceIte,jc,jg,jd,je,reduceCtorEq]
    exact fin _ _ _ 0 [] [] h2 .nil .nil
  have d1:decide ((PN:Int) > 2048) = false:=decide_eq_false (by omega)
  have d2:(root == 0) = false:=by simpa using h0
  have hms:∀ σ:List Ob,msDV L σ 102 (.int .i64 (PN:Int)) (.int .i64 (PN:Int)) = some (.sl σ.length PN 0 PN,σ ++ [.arr 4 1 (List.replicate PN (.bool false))]):=by
    intro σ
    simp only [msDV,L102,L4]
    rw [if_pos ⟨by omega,by omega,by omega,by omega,rfl,by decide⟩,Int.toNat_natCast]
  have hbd:buildDV L 104 [(0,.agg [.vec c 1 X]),(1,.sl 1 PN 0 PN)] = some (.agg [.vec c 1 X,.sl 1 PN 0 PN,.nils,.int .i64 0,.bool false]):=rfl
  obtain ⟨F0,hF0⟩:∃ F0,F0 = List.replicate PN (DV.bool false):=⟨_,rfl⟩
  simp only [← hF0] at hms
  have hmet0:F0 = metL ps.length w0.met:=by
    rw [hF0,hPN]
    unfold metL w0
    simp [List.map_const']
  have h3:Three [.arr 24 1 [.agg [.vec c 1 X]],.dead,.dead,.dead] 2 1 3:=by constructor <;> simp
  have hS:∀ w x,rS [.arr 24 1 [.agg [.vec c 1 X]],.dead,.dead,.dead] 2 1 3 c ps w x = [.arr 24 1 [.agg [.vec c 1 X]],rM ps w,rW c ps 1 3 w x,wI w]:=fun w x=>rfl
  have hnode:=rnode_ok c ps (by omega) 2 1 3 16 _ h3 root 1 none none .nils .nils w0 (by decide) (by decide) (by decide) hroot rfl rfl
  rw [hS,hS] at hnode
  obtain ⟨res,hres⟩:∃ res,res = rnodeF ps 16 root 1 none none w0:=⟨_,rfl⟩
  rw [← hres] at hnode h2
  obtain ⟨w,bad⟩:=res
  have hst0:[Ob.arr 24 1 [.agg [.vec c 1 X]],rM ps w0,rW c ps 1 3 w0 false,wI w0] = [Ob.arr 24 1 [.agg [.vec c 1 X]],.arr 4 1 F0,.arr 104 5 [.agg [.vec c 1 X,.sl 1 PN 0 PN,.sl 3 0 0 0,.int .i64 0,.bool false]],.arr 27 2 []]:=by
    rw [hmet0,hPN,hX]; rfl
  obtain ⟨M,hM⟩:∃ M,M = metL ps.length w.met:=⟨_,rfl⟩
  have hMl:M.length = PN:=by rw [hM,metL_length,hPN]
  obtain ⟨IX,hIX⟩:∃ IX,IX = w.items.map eT:=⟨_,rfl⟩
  obtain ⟨N,hN⟩:∃ N,N = w.items.length:=⟨_,rfl⟩
  have hst1:[Ob.arr 24 1 [.agg [.vec c 1 X]],rM ps w,rW c ps 1 3 w bad,wI w] = [Ob.arr 24 1 [.agg [.vec c 1 X]],.arr 4 1 M,.arr 104 5 [.agg [.vec c 1 X,.sl 1 PN 0 PN,.sl 3 N 0 N,.int .i64 w.leaf,.bool bad]],.arr 27 2 IX]:=by
    rw [hM,hPN,hX,hN,hIX]; rfl
  simp only at hnode h2
  rw [hst0,hst1] at hnode
  refine OkE.of_body layOk Try.func33 rfl (by decide) (by simp [Try.ntmps33]) fun C hP hn hσ hfix hdd=>?_
  rw [show Try.f33.ntmps = 56 from rfl] at hn
  have hL:LayOk C.P L:=hP ▸ layOk
  have hm:C.P.follows .mixedOrders = true:=hP ▸ mixed
  repeat (first|((first|refine sA hL hn rfl ?_|refine sB hL hn rfl ?_);simp only [go_sem,jf,jh,ji,ja,jb,reduceIte,jc,jg,jd,je,reduceCtorEq,hXl,d1,d2])|((first|refine sC ?_|refine sH ?_|refine sI ?_|refine sJ ?_);try simp only [jk,jl,jm,jn,if_true,if_false,jb])|refine sD ?_|refine sE ?_|refine sF rfl ?_|refine sG rfl ?_)
  refine sM hL hm hn di33_5 [[.arr 24 1 [.agg [.vec c 1 X]]],[.arr 24 1 [.agg [.vec c 1 X]],.arr 4 1 F0],[.arr 24 1 [.agg [.vec c 1 X]],.arr 4 1 F0,.arr 104 5 [.agg [.vec c 1 X,.sl 1 PN 0 PN,.nils,.int .i64 0,.bool false]]]] rfl rfl rfl ?_
  unfold di33_5
  repeat (rw [dgo_cons]; simp (maxSteps:=2000000) only [go_sem,jf,jh,ji,ja,jb,reduceIte,jc,jg,jd,je,reduceCtorEq,hXl,hms,hbd])
  try rw [dgo_nil]
  try simp only [go_sem,jf,jh,ji,ja,jb,reduceIte,jc,jg,jd,je,reduceCtorEq,hXl,hms,hbd]
  refine SW.ghost (Ghost.newNilIn 2 2 27 2 (t:=104) (k:=5) (cs:=[.vec c 1 X,.sl 1 PN 0 PN,.nils,.int .i64 0,.bool false]) rfl rfl) ?_
  repeat (first|((first|refine sA hL hn rfl ?_|refine sB hL hn rfl ?_);simp only [go_sem,jf,jh,ji,ja,jb,reduceIte,jc,jg,jd,je,reduceCtorEq])|((first|refine sC ?_|refine sH ?_|refine sI ?_|refine sJ ?_);try simp only [jk,jl,jm,jn,if_true,if_false,jb])|refine sD ?_|refine sE ?_|refine sF rfl ?_|refine sG rfl ?_)
  refine sK hP hL hn rfl rfl (hnode) rfl rfl rfl rfl ?_; simp (maxSteps:=2000000) only [go_sem,jf,jh,ji,ja,jb,reduceIte,jc,jg,jd,je,reduceCtorEq]
  cases bad
  rotate_left
  · have h2:=(h2.resolve_right (by simp)).2
    repeat (first|((first|refine sA hL hn rfl ?_|refine sB hL hn rfl ?_);simp only [go_sem,jf,jh,ji,ja,jb,reduceIte,jc,jg,jd,je,reduceCtorEq])|((first|refine sC ?_|refine sH ?_|refine sI ?_|refine sJ ?_);try simp only [jk,jl,jm,jn,if_true,if_false,jb])|refine sD ?_|refine sE ?_|refine sF rfl ?_|refine sG rfl ?_)
    refine ⟨_,_,?_,_,(.tup [.nils,.nils,.int .i64 9]),_,Ghost.refl _ _,?_,GhostV.refl _ _ _,rfl⟩
    rotate_left
    show resDV L _ [Go.ResultVar.tmp 4,Go.ResultVar.tmp 5,Go.ResultVar.tmp 6] = _
    simp only [resDV,resL,resDV1,go_sem,jf,jh,ji,ja,jb,reduceIte,jc,jg,jd,je,reduceCtorEq]
    exact fin _ _ _ 9 [] [] h2 .nil .nil
  have h2:=(h2.resolve_left (by simp)).2
  repeat (first|((first|refine sA hL hn rfl ?_|refine sB hL hn rfl ?_);simp only [go_sem,jf,jh,ji,ja,jb,reduceIte,jc,jg,jd,je,reduceCtorEq])|((first|refine sC ?_|refine sH ?_|refine sI ?_|refine sJ ?_);try simp only [jk,jl,jm,jn,if_true,if_false,jb])|refine sD ?_|refine sE ?_|refine sF rfl ?_|refine sG rfl ?_)
  refine SW.ghost (Ghost.newNil 8 3 1 rfl) ?_
  obtain ⟨mt,hmt⟩:∃ mt,mt = w.met:=⟨_,rfl⟩
  rw [← hmt] at h2 hM
  refine SW.lpg (fun x:Nat × List Ob=>⟨[(7,.ptr 2 1 0 0),(8,.sl 4 (metTo mt x.1).length 0 (metTo mt x.1).length),(9,.int .i64 x.1)],[Ob.arr 24 1 [.agg [.vec c 1 X]],.arr 4 1 M,.arr 104 5 [.agg [.vec c 1 X,.sl 1 PN 0 PN,.sl 3 N 0 N,.int .i64 w.leaf,.bool false]],.arr 27 2 IX,.arr 3 1 ((metTo mt x.1).map eI)] ++ x.2⟩) (fun x=>PN - x.1) (fun x=>x.1≤PN) (0,[]) (by simp) (.of (by simp [metTo]) (by simp [agree,lk,up,metTo])) ?_
  rintro ⟨k,T⟩ hk
  simp only at hk
  have hml2:=metTo_len mt k
  by_cases hlt:k < PN
  · have e1:decide ((k:Int) < (PN:Int)) = true:=decide_eq_true (by omega)
    have e2:(0≤(k:Int)∧(k:Int) < (PN:Int)):=by omega
    have e2n:k+1≤PN:=by omega
    have w2:IntKind.i64.wrap ((k:Int)+1) = ((k+1:Nat):Int):=wi (by omega) (by omega)
    have hsucc:=metTo_succ mt k
    have e3:M[k]? = some (.bool (decide (((k+1:Nat):Int) ∈ mt))):=by rw [hM]; exact metL_get mt (by omega)
    obtain ⟨o,ho⟩:∃ o,o = metTo mt k:=⟨_,rfl⟩
    obtain ⟨o',ho'⟩:∃ o',o' = metTo mt (k+1):=⟨_,rfl⟩
    rw [← ho,← ho'] at hsucc
    simp only
    rw [← ho] at hml2 ⊢
    obtain ⟨O,hO⟩:∃ O,O = o.map eI:=⟨_,rfl⟩
    have hOl:O.length = o.length:=by rw [hO,List.length_map]
    have hcap:((o.length+1) * 8≤140737488355328) = True:=eq_true (by omega)
    have gT:∀ x:Ob,(T ++ [x])[T.length]? = some x:=fun x=>by simp
    rw [← hO]
    by_cases hin:((k+1:Nat):Int) ∈ mt
    · rw [if_pos hin] at hsucc
      rw [decide_eq_true hin] at e3
      repeat (first|((first|refine sA hL hn rfl ?_|refine sB hL hn rfl ?_);simp only [go_sem,jf,jh,ji,ja,jb,reduceIte,jc,jg,jd,je,reduceCtorEq,e1,e2,e2n,e3,hMl,w2,appDV,hOl,hcap,gT,Int.toNat_natCast])|((first|refine sC ?_|refine sH ?_|refine sI ?_|refine sJ ?_);try simp only [jk,jl,jm,jn,if_true,if_false,jb])|refine sD ?_|refine sE ?_|refine sF rfl ?_|refine sG rfl ?_)
      exact Lp.nextg (k+1,T ++ [.arr 3 1 [.int .i64 ((k+1:Nat):Int)]]) (by show k+1≤_; omega) (by show PN - (k+1) < _; omega) (.of (by simp only; rw [← ho',hsucc]; simp [hO,eI]) (by simp only [← ho',hsucc]; simp [agree,lk]))
    · rw [if_neg hin] at hsucc
      rw [decide_eq_false hin] at e3
      repeat (first|((first|refine sA hL hn rfl ?_|refine sB hL hn rfl ?_);simp only [go_sem,jf,jh,ji,ja,jb,reduceIte,jc,jg,jd,je,reduceCtorEq,e1,e2,e2n,e3,hMl,w2,Int.toNat_natCast])|((first|refine sC ?_|refine sH ?_|refine sI ?_|refine sJ ?_);try simp only [jk,jl,jm,jn,if_true,if_false,jb])|refine sD ?_|refine sE ?_|refine sF rfl ?_|refine sG rfl ?_)
      exact Lp.nextg (k+1,T) (by show k+1≤_; omega) (by show PN - (k+1) < _; omega) (.of (by simp only; rw [← ho',hsucc,← hO]) (by simp only [← ho',hsucc]; simp [agree,lk]))
  · have e1:decide ((k:Int) < (PN:Int)) = false:=decide_eq_false (by omega)
    obtain rfl:k = PN:=by omega
    simp only
    repeat (first|((first|refine sA hL hn rfl ?_|refine sB hL hn rfl ?_);simp only [go_sem,jf,jh,ji,ja,jb,reduceIte,jc,jg,jd,je,reduceCtorEq,e1])|((first|refine sC ?_|refine sH ?_|refine sI ?_|refine sJ ?_);try simp only [jk,jl,jm,jn,if_true,if_false,jb])|refine sD ?_|refine sE ?_|refine sF rfl ?_|refine sG rfl ?_)
    refine ⟨_,_,?_,_,(.tup [.sl 3 N 0 N,.sl 4 (metTo mt k).length 0 (metTo mt k).length,.int .i64 0]),_,Ghost.refl _ _,?_,GhostV.refl _ _ _,rfl⟩
    rotate_left
    show resDV L _ [Go.ResultVar.tmp 4,Go.ResultVar.tmp 5,Go.ResultVar.tmp 6] = _
    simp only [resDV,resL,resDV1,go_sem,jf,jh,ji,ja,jb,reduceIte,jc,jg,jd,je,reduceCtorEq]
    refine fin _ _ _ 0 _ _ h2 ?_ ?_
    · rw [hN]
      exact Fz.list eT (low_eT 0) (by rw [hIX]; rfl)
    · exact Fz.list eI (low_eI 0) rfl
end Go.VL
end
