/- Proved: TreeTells: whatever tree, root, key and number come in (together of bulk at most 1048576), the call returns true and they read as they did; no other condition. This text is part 9 of 18. -/
import Derived.Test.YtghomgiklhbjiaaW08
set_option linter.unusedSimpArgs false
set_option linter.unusedVariables false
section
set_option maxRecDepth 10000
set_option maxHeartbeats 1000000
namespace Go.VL
open Go Go.Proofs
open Nat renaming reduceAdd → ja, reduceEqDiff → jb, reduceSub → jc, reduceMul → jd, reduceLeDiff → je, reduceBEq → jf, reduceLT → jg
open Int renaming reduceLT → jh, reduceLE → ji
open Go.VL renaming thenK → jk, blockK → jl, loopK → jm, loopG → jn
theorem Fz.list {α:Type} (e:α→DV) (h:∀ a,Low 0 (e a)) {O:List Ob} {c id t k:Nat} {l:List α} (ho:O[id]? = some (.arr t k (l.map e))):Fz O c (.sl id l.length 0 l.length) (.vec c k (l.map e)):=by
  have:=Fz.sl (O:=O) (c:=c) (off:=0) (l:=l.length) (ys:=l.map e) ho (by simp) (fun j x y _ hx hy=>by rw [Nat.zero_add,hy] at hx; cases hx; rfl) (fun j i x y d D _ hx hy hd hD=>by
    rw [Nat.zero_add,hy] at hx; cases hx
    rw [hd] at hD; cases hD
    refine .low (low_cells (h:=?_) hd)
    obtain ⟨a,_,rfl⟩:=List.mem_map.1 (List.mem_of_getElem? hy)
    exact h a)
  rwa [List.length_map] at this
theorem Fz.two {O:List Ob} {c:Nat} {a b a' b':DV} (h:Fz O c a a') (k:Fz O c b b'):Fz O c (.tup [a,b]) (.tup [a',b']):=by
  refine .tup rfl fun i x y hx hy=>?_
  match i,hx,hy with
  | 0,hx,hy=>cases hx; cases hy; exact h
  | 1,hx,hy=>cases hx; cases hy; exact k
  | i+2,hx,_=>simp at hx
theorem Fz.agg2 {O:List Ob} {c:Nat} {a b a' b':DV} (h:Fz O c a a') (k:Fz O c b b'):Fz O c (.agg [a,b]) (.agg [a',b']):=by
  refine .agg rfl fun i x y hx hy=>?_
  match i,hx,hy with
  | 0,hx,hy=>cases hx; cases hy; exact h
  | 1,hx,hy=>cases hx; cases hy; exact k
  | i+2,hx,_=>simp at hx
def eI (n:Int):DV:=.int .i64 n
def eV (n:Int):DV:=.int .u64 n
theorem low_eB (n:Nat) (b:UInt8):Low n (eB b):=(low_int _ _).2 trivial
theorem low_eI (n:Nat) (b:Int):Low n (eI b):=(low_int _ _).2 trivial
theorem low_eV (n:Nat) (b:Int):Low n (eV b):=(low_int _ _).2 trivial
theorem low_lst (n c k:Nat) {α:Type} (e:α→DV) (h:∀ a,Low n (e a)) (l:List α):Low n (.vec c k (l.map e)):=by
  rw [low_vec]
  intro u hu
  obtain ⟨v,_,rfl⟩:=List.mem_map.1 hu
  exact h v
theorem all_one {α:Type} (e:α→DV) (h:∀ a,(e a).cells.all DV.one = true) (l:List α):((l.map e).all fun y=>y.cells.all DV.one) = true:=by
  rw [List.all_eq_true]
  intro y hy
  obtain ⟨x,_,rfl⟩:=List.mem_map.1 hy
  exact h x
theorem all_eB (l:List UInt8):((l.map eB).all fun y=>y.cells.all DV.one) = true:=all_one eB (fun _=>rfl) l
def b8 (x:Int):UInt8:=UInt8.ofNat x.toNat
theorem eB_b8 (x:Int):eB (b8 (IntKind.u8.wrap x)) = .int .u8 (IntKind.u8.wrap x):=by
  have:=IntKind.wrap_u8 x
  have h:0≤IntKind.u8.wrap x∧IntKind.u8.wrap x < 256:=by rw [this]; omega
  unfold eB b8
  congr 1
  rw [UInt8.toNat_ofNat']
  omega
def pB (n:Int) (i:Nat):UInt8:=b8 (IntKind.u8.wrap (n.fdiv (2 ^ min (8 * i) 64)))
def putB (n:Int) (k:Nat):List UInt8:=(List.range k).map (pB n)
theorem putB_length (n:Int) (k:Nat):(putB n k).length = k:=by simp [putB]
def putRes (n size:Int):List UInt8 × Int :=
  if size < 1∨8 < size then ([],1) else if size < 8∧n.fdiv (2 ^ min (8 * size).toNat 64) ≠ 0 then ([],4) else (putB n size.toNat,0)
theorem putTo_set (n:Int) (k S:Nat) (h:k < S):((putB n k).map eB ++ List.replicate (S - k) (DV.int .u8 0)).set k (eB (pB n k)) = (putB n (k+1)).map eB ++ List.replicate (S - (k+1)) (.int .u8 0):=by
  rw [List.set_append_right _ _ (by simp [putB]),List.length_map,putB_length,Nat.sub_self,show S - k = (S - (k+1))+1 by omega,List.replicate_succ,List.set_cons_zero]
  simp [putB,List.range_succ]
theorem putRaw_ok (n:Int) (S:Nat) (h1:1≤S∧S≤8) (h2:¬ ((S:Int) < 8∧n.fdiv (2 ^ min (8 * S) 64) ≠ 0)) (σ:List Ob) :
    Ok Try.prog 89 [.int .u64 n,.int .i64 S] σ (.ret (.tup [.sl σ.length S 0 S,.int .i64 0])) (σ ++ [.arr 5 1 ((putB n S).map eB)]):=by
  refine Ok.of_body layOk Try.func89 rfl (by decide) (by simp [Try.ntmps89]) fun C hP hn hσ hfix hdd=>?_
  rw [show Try.f89.ntmps = 40 from rfl] at hn
  have hL:LayOk C.P L:=hP ▸ layOk
  have hm:C.P.follows .mixedOrders = true:=hP ▸ mixed
  have d1:decide ((S:Int) < 1) = false:=decide_eq_false (by omega)
  have d2:decide ((S:Int) > 8) = false:=decide_eq_false (by omega)
  have w1:IntKind.i64.wrap (8 * (S:Int)) = ((8 * S:Nat):Int):=wi (by omega) (by omega)
  have z1:(((8 * S:Nat):Int) < 0) = False:=eq_false (by omega)
  have hms:msDV L σ 67 (.int .i64 (S:Int)) (.int .i64 (S:Int)) = some (.sl σ.length S 0 S,σ ++ [.arr 5 1 (List.replicate S (.int .u8 0))]):=by
    simp only [msDV,L67,L5]
    rw [if_pos ⟨by omega,by omega,by omega,by omega,rfl,by decide⟩,Int.toNat_natCast]
  have d3:(decide ((S:Int) < 8) = true∧(n.fdiv (2 ^ min (8 * S) 64) != 0) = false)∨decide ((S:Int) < 8) = false:=by
    by_cases h:(S:Int) < 8
    · refine .inl ⟨decide_eq_true h,?_⟩
      simpa using fun e=>h2 ⟨h,e⟩
    · exact .inr (decide_eq_false h)
  rcases d3 with ⟨d3,d4⟩ | d3
  rotate_left
  repeat (first|((first|refine sA hL hn rfl ?_|refine sB hL hn rfl ?_);simp only [go_sem,jf,jh,ji,ja,jb,reduceIte,jc,jg,jd,je,reduceCtorEq,d1,d2,d3,hms])|((first|refine sC ?_|refine sH ?_|refine sI ?_|refine sJ ?_);try simp only [jk,jl,jm,jn,if_true,if_false,jb])|refine sD ?_|refine sE ?_|refine sF rfl ?_|refine sG rfl ?_)
  rotate_left
  repeat (first|((first|refine sA hL hn rfl ?_|refine sB hL hn rfl ?_);simp only [go_sem,jf,jh,ji,ja,jb,reduceIte,jc,jg,jd,je,reduceCtorEq,d1,d2,d3,shiftInt,w1,z1,Int.toNat_natCast,d4,hms])|((first|refine sC ?_|refine sH ?_|refine sI ?_|refine sJ ?_);try simp only [jk,jl,jm,jn,if_true,if_false,jb])|refine sD ?_|refine sE ?_|refine sF rfl ?_|refine sG rfl ?_)
  all_goals
    refine SW.lpg (fun k:Nat=>⟨[(0,.int .u64 n),(6,.sl σ.length S 0 S),(26,.int .i64 S),(27,.int .i64 k)],σ ++ [.arr 5 1 ((putB n k).map eB ++ List.replicate (S - k) (.int .u8 0))]⟩) (fun k=>S - k) (fun k=>k≤S) 0 (by omega) (.of rfl ⟨rfl,rfl,rfl,rfl,trivial⟩) ?_
    intro k hk
    by_cases hlt:k < S
    · have e1:decide ((k:Int) < (S:Int)) = true:=decide_eq_true (by omega)
      have e2:(0≤(k:Int)∧(k:Int) < (S:Int)):=by omega
      have w3:IntKind.i64.wrap (8 * (k:Int)) = ((8 * k:Nat):Int):=wi (by omega) (by omega)
      have w4:IntKind.i64.wrap ((k:Int)+1) = ((k+1:Nat):Int):=wi (by omega) (by omega)
      have z2:(((8 * k:Nat):Int) < 0) = False:=eq_false (by omega)
      obtain ⟨O,hO⟩:∃ O,O = (putB n k).map eB ++ List.replicate (S - k) (DV.int .u8 0):=⟨_,rfl⟩
      have hOl:O.length = S:=by rw [hO]; simp [putB_length]; omega
      have hl1:k+1≤S:=by omega
      have hset:O.set k (.int .u8 (IntKind.u8.wrap (n.fdiv (2 ^ min (8 * k) 64)))) = (putB n (k+1)).map eB ++ List.replicate (S - (k+1)) (DV.int .u8 0):=by
        rw [← putTo_set n k S hlt,← hO]
        simp only [pB,eB_b8]
      have hOk:O[k]? = some (DV.int .u8 0):=by
        rw [hO,List.getElem?_append_right (by simp [putB_length]),List.length_map,putB_length,List.getElem?_replicate,if_pos (by omega)]
      rw [← hO]
      repeat (first|((first|refine sA hL hn rfl ?_|refine sB hL hn rfl ?_);simp only [go_sem,jf,jh,ji,ja,jb,reduceIte,jc,jg,jd,je,reduceCtorEq,e1,e2,hOk,w3,z2,shiftInt,Int.toNat_natCast,convDV,hOl,storeDV,indexAddrDV,last_get,last_set,setCells,DV.one,hl1,List.all_cons,List.all_nil,w4])|((first|refine sC ?_|refine sH ?_|refine sI ?_|refine sJ ?_);try simp only [jk,jl,jm,jn,if_true,if_false,jb])|refine sD ?_|refine sE ?_|refine sF rfl ?_|refine sG rfl ?_)
      exact Lp.nextg (k+1) (by omega) (by omega) (.of (by rw [← hset]; rfl) ⟨rfl,rfl,rfl,rfl,trivial⟩)
    · have e1:decide ((k:Int) < (S:Int)) = false:=decide_eq_false (by omega)
      obtain rfl:k = S:=by omega
      rw [Nat.sub_self,List.replicate_zero,List.append_nil]
      repeat (first|((first|refine sA hL hn rfl ?_|refine sB hL hn rfl ?_);simp only [go_sem,jf,jh,ji,ja,jb,reduceIte,jc,jg,jd,je,reduceCtorEq,e1])|((first|refine sC ?_|refine sH ?_|refine sI ?_|refine sJ ?_);try simp only [jk,jl,jm,jn,if_true,if_false,jb])|refine sD ?_|refine sE ?_|refine sF rfl ?_|refine sG rfl ?_)
      exact ⟨_,_,_,Ghost.refl _ _,rfl,GhostV.refl _ _ _,rfl⟩
theorem low_bytes (n c:Nat) (l:List UInt8):Low n (.vec c 1 (l.map eB)):=low_lst n c 1 eB (low_eB n) l
theorem put_ok (n size:Int) (hs:-9223372036854775808≤size∧size≤9223372036854775807) (σ:List Ob) :
    Ok Try.prog 89 [.int .u64 n,.int .i64 size] σ (.ret (.tup [.vec 0 1 ((putRes n size).1.map eB),.int .i64 (putRes n size).2])) σ:=by
  by_cases h1:size < 1∨8 < size
  · rw [show putRes n size = ([],1) by simp [putRes,h1]]
    refine Ok.thaw (c:=0) (d:=.tup [.nils,.int .i64 1]) (O:=[]) ?_ (.two .nil (.low (low_int _ _ |>.2 trivial))) (by simp [low_int]) σ
    refine Ok.of_body layOk Try.func89 rfl (by decide) (by simp [Try.ntmps89]) fun C hP hn hσ hfix hdd=>?_
    rw [show Try.f89.ntmps = 40 from rfl] at hn
    have hL:LayOk C.P L:=hP ▸ layOk
    have hm:C.P.follows .mixedOrders = true:=hP ▸ mixed
    by_cases h:size < 1
    · have d1:decide (size < 1) = true:=decide_eq_true h
      repeat (first|((first|refine sA hL hn rfl ?_|refine sB hL hn rfl ?_);simp only [go_sem,jf,jh,ji,ja,jb,reduceIte,jc,jg,jd,je,reduceCtorEq,d1])|((first|refine sC ?_|refine sH ?_|refine sI ?_|refine sJ ?_);try simp only [jk,jl,jm,jn,if_true,if_false,jb])|refine sD ?_|refine sE ?_|refine sF rfl ?_|refine sG rfl ?_)
      exact ⟨_,_,_,Ghost.refl _ _,rfl,GhostV.refl _ _ _,rfl⟩
    · have d1:decide (size < 1) = false:=decide_eq_false h
      have d2:decide (size > 8) = true:=decide_eq_true (by omega)
      repeat (first|((first|refine sA hL hn rfl ?_|refine sB hL hn rfl ?_);simp only [go_sem,jf,jh,ji,ja,jb,reduceIte,jc,jg,jd,je,reduceCtorEq,d1,d2])|((first|refine sC ?_|refine sH ?_|refine sI ?_|refine sJ ?_);try simp only [jk,jl,jm,jn,if_true,if_false,jb])|refine sD ?_|refine sE ?_|refine sF rfl ?_|refine sG rfl ?_)
      exact ⟨_,_,_,Ghost.refl _ _,rfl,GhostV.refl _ _ _,rfl⟩
  · obtain ⟨S,rfl⟩:=Int.eq_ofNat_of_zero_le (show 0≤size by omega)
    have e8:(8 * (S:Int)).toNat = 8 * S:=by omega
    by_cases h2:(S:Int) < 8∧n.fdiv (2 ^ min (8 * S) 64) ≠ 0
    · rw [show putRes n S = ([],4) by simp only [putRes,if_neg h1,e8,if_pos h2]]
      refine Ok.thaw (c:=0) (d:=.tup [.nils,.int .i64 4]) (O:=[]) ?_ (.two .nil (.low (low_int _ _ |>.2 trivial))) (by simp [low_int]) σ
      refine Ok.of_body layOk Try.func89 rfl (by decide) (by simp [Try.ntmps89]) fun C hP hn hσ hfix hdd=>?_
      rw [show Try.f89.ntmps = 40 from rfl] at hn
      have hL:LayOk C.P L:=hP ▸ layOk
      have hm:C.P.follows .mixedOrders = true:=hP ▸ mixed
      have d1:decide ((S:Int) < 1) = false:=decide_eq_false (by omega)
      have d2:decide ((S:Int) > 8) = false:=decide_eq_false (by omega)
      have w1:IntKind.i64.wrap (8 * (S:Int)) = ((8 * S:Nat):Int):=wi (by omega) (by omega)
      have z1:(((8 * S:Nat):Int) < 0) = False:=eq_false (by omega)
      have d3:decide ((S:Int) < 8) = true:=decide_eq_true h2.1
      have d4:(n.fdiv (2 ^ min (8 * S) 64) != 0) = true:=by simpa using h2.2
      repeat (first|((first|refine sA hL hn rfl ?_|refine sB hL hn rfl ?_);simp only [go_sem,jf,jh,ji,ja,jb,reduceIte,jc,jg,jd,je,reduceCtorEq,d1,d2,d3,shiftInt,w1,z1,Int.toNat_natCast,d4])|((first|refine sC ?_|refine sH ?_|refine sI ?_|refine sJ ?_);try simp only [jk,jl,jm,jn,if_true,if_false,jb])|refine sD ?_|refine sE ?_|refine sF rfl ?_|refine sG rfl ?_)
      exact ⟨_,_,_,Ghost.refl _ _,rfl,GhostV.refl _ _ _,rfl⟩
    · have e:putRes n S = (putB n S,0):=by simp only [putRes,if_neg h1,e8,if_neg h2,Int.toNat_natCast]
      rw [e]
      have:=putRaw_ok n S (by omega) h2 []
      refine Ok.thaw (c:=0) this (.two ?_ (.low (low_int _ _ |>.2 trivial))) (by simp [low_int]) σ
      have h:=Fz.list (O:=[Ob.arr 5 1 ((putB n S).map eB)]) (c:=0) (id:=0) (t:=5) (k:=1) (l:=putB n S) eB (low_eB 0) rfl
      rw [putB_length] at h
      exact h
theorem putRes_length (n size:Int):(putRes n size).1.length≤8:=by
  unfold putRes
  split
  · simp
  · split
    · simp
    · simp [putB_length]; omega
def packF:List (Int × Int)→List UInt8→List UInt8 × Int
  | [],acc=>(acc,0)
  | (w,v) :: r,acc=>if (putRes v w).2 = 0 then packF r (acc ++ (putRes v w).1) else ([],(putRes v w).2)
def packRes (ws vs:List Int):List UInt8 × Int:=if ws.length ≠ vs.length∨64 < ws.length then ([],3) else packF (ws.zip vs) []
end Go.VL
end
section
set_option maxRecDepth 10000
set_option maxHeartbeats 1000000
namespace Go.VL
open Go Go.Proofs
open Nat renaming reduceAdd → ja, reduceEqDiff → jb, reduceSub → jc, reduceMul → jd, reduceLeDiff → je, reduceBEq → jf, reduceLT → jg
open Int renaming reduceLT → jh, reduceLE → ji
open Go.VL renaming thenK → jk, blockK → jl, loopK → jm, loopG → jn
theorem Fz.bytes {O:List Ob} {c id t:Nat} {l:List UInt8} {n:Nat} (hn:n = l.length) (ho:O[id]? = some (.arr t 1 (l.map eB))):Fz O c (.sl id n 0 n) (.vec c 1 (l.map eB)):=by
  subst hn; exact Fz.list eB (low_eB 0) ho
theorem cloneB_ok (c:Nat) (bs:List UInt8) (hb:bs.length≤134217728) (σ:List Ob):Ok Try.prog 50 [.vec c 1 (bs.map eB)] σ (.ret (.vec 0 1 (bs.map eB))) σ:=by
  by_cases h0:bs = []
  · subst h0
    rw [List.map_nil]
    refine (OkE.thaw (c:=0) (R:=fun D=>D = .vec 0 1 []) ?_ (by simp [low_vec]) σ).ok fun o σ' ⟨e,D',e1,e2⟩=>by subst e2; exact ⟨e1,e⟩
    refine OkE.of_body layOk Try.func50 rfl (by decide) (by simp [Try.ntmps50]) fun C hP hn hσ hfix hdd=>?_
    rw [show Try.f50.ntmps = 8 from rfl] at hn
    have hL:LayOk C.P L:=hP ▸ layOk
    have hm:C.P.follows .mixedOrders = true:=hP ▸ mixed
    repeat (first|((first|refine sA hL hn rfl ?_|refine sB hL hn rfl ?_);simp only [go_sem,jf,jh,ji,ja,jb,reduceIte,jc,jg,jd,je,reduceCtorEq])|((first|refine sC ?_|refine sH ?_|refine sI ?_|refine sJ ?_);try simp only [jk,jl,jm,jn,if_true,if_false,jb])|refine sD ?_|refine sE ?_|refine sF rfl ?_|refine sG rfl ?_)
    refine SWops.eqNil hL (by rw [hn]; rfl) rfl rfl ⟨_,_,rfl,rfl⟩ rfl rfl fun b hb=>?_
    refine SWops.nil ?_
    simp only [upo,up,thenK]
    cases b
    · repeat (first|((first|refine sA hL hn rfl ?_|refine sB hL hn rfl ?_);simp only [go_sem,jf,jh,ji,ja,jb,reduceIte,jc,jg,jd,je,reduceCtorEq,appDV])|((first|refine sC ?_|refine sH ?_|refine sI ?_|refine sJ ?_);try simp only [jk,jl,jm,jn,if_true,if_false,jb])|refine sD ?_|refine sE ?_|refine sF rfl ?_|refine sG rfl ?_)
      refine ⟨.ret .emp,[],⟨_,_,rfl,.emp,rfl⟩,?_⟩
      exact ⟨_,_,_,Ghost.refl _ _,rfl,GhostV.refl _ _ _,rfl⟩
    · repeat (first|((first|refine sA hL hn rfl ?_|refine sB hL hn rfl ?_);simp only [go_sem,jf,jh,ji,ja,jb,reduceIte,jc,jg,jd,je,reduceCtorEq])|((first|refine sC ?_|refine sH ?_|refine sI ?_|refine sJ ?_);try simp only [jk,jl,jm,jn,if_true,if_false,jb])|refine sD ?_|refine sE ?_|refine sF rfl ?_|refine sG rfl ?_)
      refine ⟨.ret .nils,[],⟨_,_,rfl,.nil,rfl⟩,?_⟩
      exact ⟨_,_,_,Ghost.refl _ _,rfl,GhostV.refl _ _ _,rfl⟩
  · have hl:0 < bs.length:=List.length_pos_iff.2 h0
    obtain ⟨X,hX⟩:∃ X,X = bs.map eB:=⟨_,rfl⟩
    have hXl:X.length = bs.length:=by rw [hX,List.length_map]
    have aX:=all_eB bs
    have hfz:Fz [Ob.arr 5 1 X] 0 (.sl 0 X.length 0 X.length) (.vec 0 1 X):=by
      rw [hX]; exact Fz.bytes (by simp) rfl
    have hlow:Low 0 (.vec c 1 X):=by rw [hX]; exact low_bytes 0 c bs
    rw [← hX] at aX ⊢
    refine Ok.thaw ?_ hfz (by simpa using hlow) σ
    simp only [DV.cells] at aX
    have hcap:(X.length≤140737488355328) = True:=eq_true (by omega)
    have n0:(X.length = 0) = False:=eq_false (by omega)
    obtain ⟨x,R,hXR⟩:∃ x R,X = x :: R:=by
      cases X with
      | nil=>simp at hXl; omega
      | cons x R=>exact ⟨x,R,rfl⟩
    have hcap':(R.length≤140737488355327) = True:=eq_true (by rw [hXR] at hXl; simp at hXl; omega)
    rw [hXR] at aX hcap n0 ⊢
    refine Ok.of_body layOk Try.func50 rfl (by decide) (by simp [Try.ntmps50]) fun C hP hn hσ hfix hdd=>?_
    rw [show Try.f50.ntmps = 8 from rfl] at hn
    have hL:LayOk C.P L:=hP ▸ layOk
    have hm:C.P.follows .mixedOrders = true:=hP ▸ mixed
    repeat (first|((first|refine sA hL hn rfl ?_|refine sB hL hn rfl ?_);simp only [go_sem,jf,jh,ji,ja,jb,reduceIte,jc,jg,jd,je,reduceCtorEq,appDV,aX,hcap',hcap,n0,Array.size_empty,List.size_toArray])|((first|refine sC ?_|refine sH ?_|refine sI ?_|refine sJ ?_);try simp only [jk,jl,jm,jn,if_true,if_false,jb])|refine sD ?_|refine sE ?_|refine sF rfl ?_|refine sG rfl ?_)
    exact ⟨_,_,_,Ghost.refl _ _,rfl,GhostV.refl _ _ _,rfl⟩
def eqB (a b:List UInt8):Bool:=(strOf a).toList == (strOf b).toList
theorem octs_eB:∀ l:List UInt8,octs (l.map eB) = some l
  | []=>rfl
  | x :: r=>by
    have:UInt8.ofNat ((x.toNat:Int).toNat) = x:=by simp
    simp only [List.map_cons,eB,octs,octs_eB r,Option.map_some,this]
theorem equalB_ok (c c':Nat) (a b:List UInt8) (σ:List Ob):Ok Try.prog 71 [.vec c 1 (a.map eB),.vec c' 1 (b.map eB)] σ (.ret (.bool (eqB a b))) σ:=by
  refine Ok.of_body layOk Try.func71 rfl (by decide) (by simp [Try.ntmps71]) fun C hP hn hσ hfix hdd=>?_
  rw [show Try.f71.ntmps = 10 from rfl] at hn
  have hL:LayOk C.P L:=hP ▸ layOk
  have hm:C.P.follows .mixedOrders = true:=hP ▸ mixed
  have ho:isOct L 5 = true:=rfl
  repeat (first|((first|refine sA hL hn rfl ?_|refine sB hL hn rfl ?_);simp only [go_sem,jf,jh,ji,ja,jb,reduceIte,jc,jg,jd,je,reduceCtorEq,ho,octs_eB,binStr])|((first|refine sC ?_|refine sH ?_|refine sI ?_|refine sJ ?_);try simp only [jk,jl,jm,jn,if_true,if_false,jb])|refine sD ?_|refine sE ?_|refine sF rfl ?_|refine sG rfl ?_)
  exact ⟨_,_,_,Ghost.refl _ _,rfl,GhostV.refl _ _ _,rfl⟩
def eP (p:Nat × List UInt8):DV:=.vec p.1 1 (p.2.map eB)
def sumP (l:List (Nat × List UInt8)):Nat:=(l.map fun p=>p.2.length).sum
def catP (l:List (Nat × List UInt8)):List UInt8:=(l.map (·.2)).flatten
theorem catP_length (l:List (Nat × List UInt8)):(catP l).length = sumP l:=by simp [catP,sumP,List.length_flatten]; rfl
theorem sumP_take (l:List (Nat × List UInt8)) (k:Nat) (h:k < l.length):sumP (l.take (k+1)) = sumP (l.take k)+(l[k]'h).2.length:=by
  simp only [sumP]
  rw [← List.take_append_getElem h,List.map_append,List.sum_append]
  simp
theorem catP_take (l:List (Nat × List UInt8)) (k:Nat) (h:k < l.length):catP (l.take (k+1)) = catP (l.take k) ++ (l[k]'h).2:=by
  simp only [catP]
  rw [← List.take_append_getElem h,List.map_append,List.flatten_append]
  simp
theorem sumP_le (l:List (Nat × List UInt8)) (k:Nat):sumP (l.take k)≤sumP l:=by
  conv=>rhs; rw [← List.take_append_drop k l]
  simp only [sumP,List.map_append,List.sum_append]
  omega
theorem concatB_ok (c:Nat) (l:List (Nat × List UInt8)) (h0:0 < sumP l) (h1:sumP l≤134217728) (σ:List Ob):Ok Try.prog 92 [.vec c 1 (l.map eP)] σ (.ret (.vec 0 1 ((catP l).map eB))) σ:=by
  obtain ⟨X,hX⟩:∃ X,X = l.map eP:=⟨_,rfl⟩
  have hXl:X.length = l.length:=by rw [hX,List.length_map]
  have hlow:Low 0 (.vec c 1 X):=by rw [hX]; exact low_lst 0 c 1 eP (fun p=>low_bytes 0 p.1 p.2) l
  rw [← hX]
  have hfz:Fz [Ob.arr 5 1 ((catP l).map eB)] 0 (.sl 0 (sumP l) 0 (sumP l)) (.vec 0 1 ((catP l).map eB)):=Fz.bytes (catP_length l).symm rfl
  refine Ok.thaw ?_ hfz (by simpa using hlow) σ
  refine Ok.of_body layOk Try.func92 rfl (by decide) (by simp [Try.ntmps92]) fun C hP hn hσ hfix hdd=>?_
  rw [show Try.f92.ntmps = 36 from rfl] at hn
  have hL:LayOk C.P L:=hP ▸ layOk
  have hm:C.P.follows .mixedOrders = true:=hP ▸ mixed
  refine SW.vlen 0 rfl fun hlen=>?_
  rw [hXl] at hlen
  repeat (first|((first|refine sA hL hn rfl ?_|refine sB hL hn rfl ?_);simp only [go_sem,jf,jh,ji,ja,jb,reduceIte,jc,jg,jd,je,reduceCtorEq,hXl])|((first|refine sC ?_|refine sH ?_|refine sI ?_|refine sJ ?_);try simp only [jk,jl,jm,jn,if_true,if_false,jb])|refine sD ?_|refine sE ?_|refine sF rfl ?_|refine sG rfl ?_)
  refine SW.lpg (fun k:Nat=>⟨[(0,.vec c 1 X),(3,.int .i64 (sumP (l.take k))),(9,.vec c 1 X),(10,.int .i64 l.length),(11,.int .i64 k)],[]⟩) (fun k=>l.length - k) (fun k=>k≤l.length) 0 (by omega) (.of rfl (by simp [agree,lk,sumP])) ?_
  intro k hk
  by_cases hlt:k < l.length
  · have e1:decide ((k:Int) < ((l.length:Nat):Int)) = true:=decide_eq_true (by omega)
    have e2:(0≤(k:Int)∧(k:Int) < ((X.length:Nat):Int)):=by omega
    obtain ⟨p,hp⟩:∃ p,p = l[k]'hlt:=⟨_,rfl⟩
    obtain ⟨q,hq⟩:∃ q,q = p.2.map eB:=⟨_,rfl⟩
    have hql:q.length = p.2.length:=by rw [hq,List.length_map]
    have e3:X[k]?.getD .undef = .vec p.1 1 q:=by rw [hX,hq,hp]; simp [hlt,eP]
    have hs:=sumP_take l k hlt
    have hs2:=sumP_le l (k+1)
    rw [← hp] at hs
    have w1:IntKind.i64.wrap (((sumP (l.take k):Nat):Int)+((p.2.length:Nat):Int)) = ((sumP (l.take (k+1)):Nat):Int):=wi (by omega) (by omega)
    have d1:decide (((sumP (l.take (k+1)):Nat):Int) < 0) = false:=decide_eq_false (by omega)
    have w2:IntKind.i64.wrap ((k:Int)+1) = ((k+1:Nat):Int):=wi (by omega) (by omega)
    repeat (first|((first|refine sA hL hn rfl ?_|refine sB hL hn rfl ?_);simp only [go_sem,jf,jh,ji,ja,jb,reduceIte,jc,jg,jd,je,reduceCtorEq,e1,e2,e3,hql,w1,d1,w2])|((first|refine sC ?_|refine sH ?_|refine sI ?_|refine sJ ?_);try simp only [jk,jl,jm,jn,if_true,if_false,jb])|refine sD ?_|refine sE ?_|refine sF rfl ?_|refine sG rfl ?_)
    exact Lp.nextg (k+1) (by omega) (by omega) (.of rfl (by simp [agree,lk]))
  · have e1:decide ((k:Int) < ((l.length:Nat):Int)) = false:=decide_eq_false (by omega)
    obtain rfl:k = l.length:=by omega
    rw [List.take_length]
    repeat (first|((first|refine sA hL hn rfl ?_|refine sB hL hn rfl ?_);simp only [go_sem,jf,jh,ji,ja,jb,reduceIte,jc,jg,jd,je,reduceCtorEq,e1])|((first|refine sC ?_|refine sH ?_|refine sI ?_|refine sJ ?_);try simp only [jk,jl,jm,jn,if_true,if_false,jb])|refine sD ?_|refine sE ?_|refine sF rfl ?_|refine sG rfl ?_)
    refine sK hP hL hn rfl rfl (growB_ok (sumP l) _ h0 h1) rfl rfl rfl rfl ?_; simp (maxSteps:=2000000) only [go_sem,jf,jh,ji,ja,jb,reduceIte,jc,jg,jd,je,reduceCtorEq]
    repeat (first|((first|refine sA hL hn rfl ?_|refine sB hL hn rfl ?_);simp only [go_sem,jf,jh,ji,ja,jb,reduceIte,jc,jg,jd,je,reduceCtorEq,hXl])|((first|refine sC ?_|refine sH ?_|refine sI ?_|refine sJ ?_);try simp only [jk,jl,jm,jn,if_true,if_false,jb])|refine sD ?_|refine sE ?_|refine sF rfl ?_|refine sG rfl ?_)
    refine SW.lpg (fun k:Nat=>⟨[(6,.sl 0 (sumP (l.take k)) 0 (sumP (l.take k))),(25,.vec c 1 X),(26,.int .i64 l.length),(27,.int .i64 k)],[.arr 5 1 ((catP (l.take k)).map eB)]⟩) (fun k=>l.length - k) (fun k=>k≤l.length) 0 (by omega) (.of (by simp [catP]) (by simp [agree,lk,sumP])) ?_
    intro k hk
    by_cases hlt:k < l.length
    · have e1:decide ((k:Int) < ((l.length:Nat):Int)) = true:=decide_eq_true (by omega)
      have e2:(0≤(k:Int)∧(k:Int) < ((X.length:Nat):Int)):=by omega
      obtain ⟨p,hp⟩:∃ p,p = l[k]'hlt:=⟨_,rfl⟩
      obtain ⟨q,hq⟩:∃ q,q = p.2.map eB:=⟨_,rfl⟩
      have hql:q.length = p.2.length:=by rw [hq,List.length_map]
      have e3:X[k]?.getD .undef = .vec p.1 1 q:=by rw [hX,hq,hp]; simp [hlt,eP]
      have hs:=sumP_take l k hlt
      have hs2:=sumP_le l (k+1)
      have hc:=catP_take l k hlt
      rw [← hp] at hs hc
      have w2:IntKind.i64.wrap ((k:Int)+1) = ((k+1:Nat):Int):=wi (by omega) (by omega)
      obtain ⟨A,hA⟩:∃ A,A = (catP (l.take k)).map eB:=⟨_,rfl⟩
      have hAl:A.length = sumP (l.take k):=by rw [hA,List.length_map,catP_length]
      have aq:(q.all fun y=>y.cells.all DV.one) = true:=by rw [hq]; exact all_eB _
      simp only [DV.cells] at aq
      have gA:([Ob.arr 5 1 A])[0]? = some (.arr 5 1 A):=rfl
      have hcap:(sumP (l.take k)+q.length≤140737488355328) = True:=eq_true (by omega)
      rw [← hA]
      repeat (first|((first|refine sA hL hn rfl ?_|refine sB hL hn rfl ?_);simp only [go_sem,jf,jh,ji,ja,jb,reduceIte,jc,jg,jd,je,reduceCtorEq,e1,e2,e3,appDV,aq,gA,hAl,hcap,w2])|((first|refine sC ?_|refine sH ?_|refine sI ?_|refine sJ ?_);try simp only [jk,jl,jm,jn,if_true,if_false,jb])|refine sD ?_|refine sE ?_|refine sF rfl ?_|refine sG rfl ?_)
      exact Lp.nextg (k+1) (by omega) (by omega) (.of (by simp [hc,hA,hq]) (by simp [agree,lk,hs,hql]))
    · have e1:decide ((k:Int) < ((l.length:Nat):Int)) = false:=decide_eq_false (by omega)
      obtain rfl:k = l.length:=by omega
      rw [List.take_length]
      repeat (first|((first|refine sA hL hn rfl ?_|refine sB hL hn rfl ?_);simp only [go_sem,jf,jh,ji,ja,jb,reduceIte,jc,jg,jd,je,reduceCtorEq,e1])|((first|refine sC ?_|refine sH ?_|refine sI ?_|refine sJ ?_);try simp only [jk,jl,jm,jn,if_true,if_false,jb])|refine sD ?_|refine sE ?_|refine sF rfl ?_|refine sG rfl ?_)
      exact ⟨_,_,_,Ghost.refl _ _,rfl,GhostV.refl _ _ _,rfl⟩
end Go.VL
end
section
set_option maxRecDepth 10000
set_option maxHeartbeats 1000000
namespace Go.VL
open Go Go.Proofs
open Nat renaming reduceAdd → ja, reduceEqDiff → jb, reduceSub → jc, reduceMul → jd, reduceLeDiff → je, reduceBEq → jf, reduceLT → jg
open Int renaming reduceLT → jh, reduceLE → ji
open Go.VL renaming thenK → jk, blockK → jl, loopK → jm, loopG → jn
theorem cl_list {α:Type} (e:α→DV) (c:Nat) (K:Nat→Prop) (h:∀ a,Cl c K (e a)) {c' k:Nat} (hc:c' ≠ c) (l:List α):Cl c K (.vec c' k (l.map e)) :=
  .vec hc fun x hx=>by obtain ⟨a,_,rfl⟩:=List.mem_map.1 hx; exact h a
theorem cl_bytes (K:Nat→Prop) (l:List UInt8):Cl 1 K (.vec 0 1 (l.map eB)):=cl_list eB 1 K (fun _=>.int) (by decide) l
theorem cl_tup2 {c:Nat} {K:Nat→Prop} {a b:DV} (ha:Cl c K a) (hb:Cl c K b):Cl c K (.tup [a,b]):=.tup fun x hx=>by
  simp only [List.mem_cons,List.not_mem_nil,or_false] at hx
  rcases hx with rfl | rfl <;> assumption
theorem lend1 {P:Program} {f:FuncId} {d d' D:DV} {σ:List Ob} (h:∀ σ,Ok P f [d'] σ (.ret D) σ) (hz:Fz σ 1 d d') (hD:Cl 1 (fun _=>True) D):Ok P f [d] σ (.ret D) σ :=
  Ok.lendF (h []) rfl (fun i x y hx hy=>by
    match i,hx,hy with
    | 0,hx,hy=>cases hx; cases hy; exact hz
    | i+1,hx,_=>simp at hx) hD
theorem Fz.int {O:List Ob} {c:Nat} {k:IntKind} {n:Int}:Fz O c (.int k n) (.int k n):=.low ((low_int _ _).2 trivial)
def sealF (bs:List UInt8):List UInt8:=bs ++ (putRes (IntKind.u64.wrap (sumF bs)) 4).1
theorem seal_ok (c:Nat) (bs:List UInt8) (h0:0 < bs.length) (h1:bs.length≤1048576) (σ:List Ob):Ok Try.prog 78 [.vec c 1 (bs.map eB)] σ (.ret (.vec 0 1 ((sealF bs).map eB))) σ:=by
  obtain ⟨n,hn'⟩:∃ n,n = IntKind.u64.wrap (sumF bs):=⟨_,rfl⟩
  obtain ⟨tl,htl⟩:∃ tl,tl = (putRes n 4).1:=⟨_,rfl⟩
  have htll:tl.length≤8:=by rw [htl]; exact putRes_length n 4
  have hs:sumP [(c,bs),(0,tl)] = bs.length+tl.length:=by simp [sumP]
  have hc:catP [(c,bs),(0,tl)] = sealF bs:=by simp [catP,sealF,htl,hn']
  obtain ⟨X,hX⟩:∃ X,X = bs.map eB:=⟨_,rfl⟩
  obtain ⟨T,hT⟩:∃ T,T = tl.map eB:=⟨_,rfl⟩
  obtain ⟨D,hD⟩:∃ D,D = (sealF bs).map eB:=⟨_,rfl⟩
  have hlX:∀ m,Low m (.vec c 1 X):=fun m=>by rw [hX]; exact low_bytes m c bs
  have hlT:∀ m,Low m (.vec 0 1 T):=fun m=>by rw [hT]; exact low_bytes m 0 tl
  have hlD:Low 0 (.vec 0 1 D):=by rw [hD]; exact low_bytes 0 0 _
  have hsum:=sum_ok c bs
  have hput:=put_ok n 4 (by omega)
  rw [← htl] at hput
  have hcat:Ok Try.prog 92 [.sl 0 2 0 2] [Ob.arr 67 1 [.vec c 1 X,.vec 0 1 T]] (.ret (.vec 0 1 D)) [Ob.arr 67 1 [.vec c 1 X,.vec 0 1 T]]:=by
    refine lend1 (d':=.vec 1 1 ([(c,bs),(0,tl)].map eP)) (fun σ=>?_) ?_ (by rw [hD]; exact cl_bytes _ _)
    · have:=concatB_ok 1 [(c,bs),(0,tl)] (by omega) (by omega) σ
      rw [hc,← hD] at this
      exact this
    · have:=Fz.list (O:=[Ob.arr 67 1 ([(c,bs),(0,tl)].map eP)]) (c:=1) (id:=0) (t:=67) (k:=1) (l:=[(c,bs),(0,tl)]) eP (fun p=>low_bytes 0 p.1 p.2) rfl
      simp only [List.map_cons,List.map_nil,eP,← hX,← hT] at this ⊢
      exact this
  rw [← hX] at hsum ⊢
  rw [← hT] at hput
  rw [← hD]
  refine Ok.thaw (c:=0) (O:=[Ob.arr 67 1 [.vec c 1 X,.vec 0 1 T]]) ?_ (.low hlD) (by simpa using hlX 0) σ
  refine Ok.of_body layOk Try.func78 rfl (by decide) (by simp [Try.ntmps78]) fun C hP hn hσ hfix hdd=>?_
  rw [show Try.f78.ntmps = 16 from rfl] at hn
  have hL:LayOk C.P L:=hP ▸ layOk
  have hm:C.P.follows .mixedOrders = true:=hP ▸ mixed
  repeat (first|((first|refine sA hL hn rfl ?_|refine sB hL hn rfl ?_);simp only [go_sem,jf,jh,ji,ja,jb,reduceIte,jc,jg,jd,je,reduceCtorEq])|((first|refine sC ?_|refine sH ?_|refine sI ?_|refine sJ ?_);try simp only [jk,jl,jm,jn,if_true,if_false,jb])|refine sD ?_|refine sE ?_|refine sF rfl ?_|refine sG rfl ?_)
  refine sK hP hL hn rfl rfl (hsum _) rfl rfl rfl rfl ?_; simp (maxSteps:=2000000) only [go_sem,jf,jh,ji,ja,jb,reduceIte,jc,jg,jd,je,reduceCtorEq,eU,convDV,← hn']
  refine sK hP hL hn rfl rfl (hput _) rfl rfl rfl rfl ?_; simp (maxSteps:=2000000) only [go_sem,jf,jh,ji,ja,jb,reduceIte,jc,jg,jd,je,reduceCtorEq]
  repeat (first|((first|refine sA hL hn rfl ?_|refine sB hL hn rfl ?_);simp only [go_sem,jf,jh,ji,ja,jb,reduceIte,jc,jg,jd,je,reduceCtorEq])|((first|refine sC ?_|refine sH ?_|refine sI ?_|refine sJ ?_);try simp only [jk,jl,jm,jn,if_true,if_false,jb])|refine sD ?_|refine sE ?_|refine sF rfl ?_|refine sG rfl ?_)
  refine sK hP hL hn rfl rfl (hcat) rfl rfl rfl rfl ?_; simp (maxSteps:=2000000) only [go_sem,jf,jh,ji,ja,jb,reduceIte,jc,jg,jd,je,reduceCtorEq]
  repeat (first|((first|refine sA hL hn rfl ?_|refine sB hL hn rfl ?_);simp only [go_sem,jf,jh,ji,ja,jb,reduceIte,jc,jg,jd,je,reduceCtorEq])|((first|refine sC ?_|refine sH ?_|refine sI ?_|refine sJ ?_);try simp only [jk,jl,jm,jn,if_true,if_false,jb])|refine sD ?_|refine sE ?_|refine sF rfl ?_|refine sG rfl ?_)
  exact ⟨_,_,_,Ghost.refl _ _,rfl,GhostV.refl _ _ _,rfl⟩
def openF (bs:List UInt8):List UInt8 × Int:=if IntKind.u32.wrap (leNat ((bs.drop 60).take 4)) ≠ sumF (bs.take 60) then ([],21) else (bs.take 60,0)
theorem open_ok (c:Nat) (bs:List UInt8) (h:bs.length = 64) (σ:List Ob):Ok Try.prog 69 [.vec c 1 (bs.map eB)] σ (.ret (.tup [.vec 0 1 ((openF bs).1.map eB),.int .i64 (openF bs).2])) σ:=by
  have hg:=get_ok c bs 60 4 [] (by omega)
  rw [show getRes bs 60 4 = (leNat ((bs.drop 60).take 4),0) by simp [getRes,h]] at hg
  obtain ⟨n,hn'⟩:∃ n:Nat,n = leNat ((bs.drop 60).take 4):=⟨_,rfl⟩
  obtain ⟨X,hX⟩:∃ X,X = bs.map eB:=⟨_,rfl⟩
  have hXl:X.length = 64:=by rw [hX,List.length_map,h]
  obtain ⟨Y,hY⟩:∃ Y,Y = (bs.take 60).map eB:=⟨_,rfl⟩
  have hxy:X.take 60 = Y:=by rw [hX,hY,List.map_take]
  have hsum:=sum_ok c (bs.take 60)
  have hcl:=cloneB_ok c (bs.take 60) (by simp; omega)
  have hlX:∀ m,Low m (.vec c 1 X):=fun m=>by rw [hX]; exact low_bytes m c bs
  have hlY:Low 0 (.vec 0 1 Y):=by rw [hY]; exact low_bytes 0 0 _
  obtain ⟨S,hS⟩:∃ S,S = sumF (bs.take 60):=⟨_,rfl⟩
  have b1:bound (some (.int .i64 60)) 64 64 = some 60:=rfl
  have w1:IntKind.i64.wrap (((64:Nat):Int) - 4) = 60:=rfl
  have m1:mx 60 0 = 60:=rfl
  have d1:((0:Int) != 0) = false:=rfl
  rw [← hX,← hn'] at hg
  rw [← hY,← hS] at hsum
  rw [← hY] at hcl
  rw [← hX]
  by_cases hq:IntKind.u32.wrap n = S
  · rw [show openF bs = (bs.take 60,0) by rw [hn',hS] at hq; simp [openF,hq],← hY]
    refine Ok.thaw (c:=0) (O:=[]) ?_ (.low (by simp [low_tup,low_int,hlY])) (by simpa using hlX 0) σ
    have d2:(IntKind.u32.wrap (n:Int) != S) = false:=by simp [hq]
    refine Ok.of_body layOk Try.func69 rfl (by decide) (by simp [Try.ntmps69]) fun C hP hn hσ hfix hdd=>?_
    rw [show Try.f69.ntmps = 33 from rfl] at hn
    have hL:LayOk C.P L:=hP ▸ layOk
    have hm:C.P.follows .mixedOrders = true:=hP ▸ mixed
    repeat (first|((first|refine sA hL hn rfl ?_|refine sB hL hn rfl ?_);simp only [go_sem,jf,jh,ji,ja,jb,reduceIte,jc,jg,jd,je,reduceCtorEq,hXl,w1,m1,maxDV])|((first|refine sC ?_|refine sH ?_|refine sI ?_|refine sJ ?_);try simp only [jk,jl,jm,jn,if_true,if_false,jb])|refine sD ?_|refine sE ?_|refine sF rfl ?_|refine sG rfl ?_)
    refine sK hP hL hn rfl rfl (hg) rfl rfl rfl rfl ?_; simp (maxSteps:=2000000) only [go_sem,jf,jh,ji,ja,jb,reduceIte,jc,jg,jd,je,reduceCtorEq,eN]
    repeat (first|((first|refine sA hL hn rfl ?_|refine sB hL hn rfl ?_);simp only [go_sem,jf,jh,ji,ja,jb,reduceIte,jc,jg,jd,je,reduceCtorEq,d1,convDV,sliceDV,hXl,b1,hxy,List.drop_zero])|((first|refine sC ?_|refine sH ?_|refine sI ?_|refine sJ ?_);try simp only [jk,jl,jm,jn,if_true,if_false,jb])|refine sD ?_|refine sE ?_|refine sF rfl ?_|refine sG rfl ?_)
    refine sK hP hL hn rfl rfl (hsum _) rfl rfl rfl rfl ?_; simp (maxSteps:=2000000) only [go_sem,jf,jh,ji,ja,jb,reduceIte,jc,jg,jd,je,reduceCtorEq,eU,d2]
    repeat (first|((first|refine sA hL hn rfl ?_|refine sB hL hn rfl ?_);simp only [go_sem,jf,jh,ji,ja,jb,reduceIte,jc,jg,jd,je,reduceCtorEq,hXl,b1,hxy,sliceDV,List.drop_zero])|((first|refine sC ?_|refine sH ?_|refine sI ?_|refine sJ ?_);try simp only [jk,jl,jm,jn,if_true,if_false,jb])|refine sD ?_|refine sE ?_|refine sF rfl ?_|refine sG rfl ?_)
    refine sK hP hL hn rfl rfl (hcl _) rfl rfl rfl rfl ?_; simp (maxSteps:=2000000) only [go_sem,jf,jh,ji,ja,jb,reduceIte,jc,jg,jd,je,reduceCtorEq]
    repeat (first|((first|refine sA hL hn rfl ?_|refine sB hL hn rfl ?_);simp only [go_sem,jf,jh,ji,ja,jb,reduceIte,jc,jg,jd,je,reduceCtorEq])|((first|refine sC ?_|refine sH ?_|refine sI ?_|refine sJ ?_);try simp only [jk,jl,jm,jn,if_true,if_false,jb])|refine sD ?_|refine sE ?_|refine sF rfl ?_|refine sG rfl ?_)
    exact ⟨_,_,_,Ghost.refl _ _,rfl,GhostV.refl _ _ _,rfl⟩
  · rw [show openF bs = ([],21) by rw [hn',hS] at hq; simp [openF,hq]]
    refine Ok.thaw (c:=0) (O:=[]) (d:=.tup [.nils,.int .i64 21]) ?_ (.two .nil .int) (by simpa using hlX 0) σ
    have d2:(IntKind.u32.wrap (n:Int) != S) = true:=by simp [hq]
    refine Ok.of_body layOk Try.func69 rfl (by decide) (by simp [Try.ntmps69]) fun C hP hn hσ hfix hdd=>?_
    rw [show Try.f69.ntmps = 33 from rfl] at hn
    have hL:LayOk C.P L:=hP ▸ layOk
    have hm:C.P.follows .mixedOrders = true:=hP ▸ mixed
    repeat (first|((first|refine sA hL hn rfl ?_|refine sB hL hn rfl ?_);simp only [go_sem,jf,jh,ji,ja,jb,reduceIte,jc,jg,jd,je,reduceCtorEq,hXl,w1,m1,maxDV])|((first|refine sC ?_|refine sH ?_|refine sI ?_|refine sJ ?_);try simp only [jk,jl,jm,jn,if_true,if_false,jb])|refine sD ?_|refine sE ?_|refine sF rfl ?_|refine sG rfl ?_)
    refine sK hP hL hn rfl rfl (hg) rfl rfl rfl rfl ?_; simp (maxSteps:=2000000) only [go_sem,jf,jh,ji,ja,jb,reduceIte,jc,jg,jd,je,reduceCtorEq,eN]
    repeat (first|((first|refine sA hL hn rfl ?_|refine sB hL hn rfl ?_);simp only [go_sem,jf,jh,ji,ja,jb,reduceIte,jc,jg,jd,je,reduceCtorEq,d1,convDV,sliceDV,hXl,b1,hxy,List.drop_zero])|((first|refine sC ?_|refine sH ?_|refine sI ?_|refine sJ ?_);try simp only [jk,jl,jm,jn,if_true,if_false,jb])|refine sD ?_|refine sE ?_|refine sF rfl ?_|refine sG rfl ?_)
    refine sK hP hL hn rfl rfl (hsum _) rfl rfl rfl rfl ?_; simp (maxSteps:=2000000) only [go_sem,jf,jh,ji,ja,jb,reduceIte,jc,jg,jd,je,reduceCtorEq,eU,d2]
    repeat (first|((first|refine sA hL hn rfl ?_|refine sB hL hn rfl ?_);simp only [go_sem,jf,jh,ji,ja,jb,reduceIte,jc,jg,jd,je,reduceCtorEq])|((first|refine sC ?_|refine sH ?_|refine sI ?_|refine sJ ?_);try simp only [jk,jl,jm,jn,if_true,if_false,jb])|refine sD ?_|refine sE ?_|refine sF rfl ?_|refine sG rfl ?_)
    exact ⟨_,_,_,Ghost.refl _ _,rfl,GhostV.refl _ _ _,rfl⟩
end Go.VL
end
section
set_option maxRecDepth 10000
set_option maxHeartbeats 1000000
namespace Go.VL
open Go Go.Proofs
open Nat renaming reduceAdd → ja, reduceEqDiff → jb, reduceSub → jc, reduceMul → jd, reduceLeDiff → je, reduceBEq → jf, reduceLT → jg
open Int renaming reduceLT → jh, reduceLE → ji
open Go.VL renaming thenK → jk, blockK → jl, loopK → jm, loopG → jn
abbrev It:=Int × Int
def eT (p:It):DV:=.agg [.int .u64 p.1,.int .u64 p.2]
theorem low_eT (n:Nat) (p:It):Low n (eT p):=by simp [eT,low_agg,low_int]
theorem all_eT (l:List It):((l.map eT).all fun y=>y.cells.all DV.one) = true:=all_one eT (fun _=>rfl) l
theorem low_items (n c:Nat) (l:List It):Low n (.vec c 2 (l.map eT)):=low_lst n c 2 eT (low_eT n) l
theorem low_kids (n c:Nat) (l:List Int):Low n (.vec c 1 (l.map eI)):=low_lst n c 1 eI (low_eI n) l
def nodeD (c c':Nat) (xs:List It) (ks:List Int):DV:=.agg [.vec c 2 (xs.map eT),.vec c' 1 (ks.map eI)]
theorem low_node (n c c':Nat) (xs:List It) (ks:List Int):Low n (nodeD c c' xs ks):=by
  simp only [nodeD,low_agg,List.mem_cons,List.not_mem_nil,or_false]
  rintro x (rfl | rfl)
  · exact low_items n c xs
  · exact low_kids n c' ks
def idxF (v:Int):List Int→Nat→Int
  | [],_=>-1
  | k :: r,i=>if v = k then i else idxF v r (i+1)
theorem index_ok (c:Nat) (ks:List Int) (v:Int) (hl:ks.length≤1048576) (σ:List Ob):Ok Try.prog 96 [.vec c 1 (ks.map eI),.int .i64 v] σ (.ret (.int .i64 (idxF v ks 0))) σ:=by
  obtain ⟨R,hR⟩:∃ R,R = idxF v ks 0:=⟨_,rfl⟩
  obtain ⟨X,hX⟩:∃ X,X = ks.map eI:=⟨_,rfl⟩
  have hXl:X.length = ks.length:=by rw [hX,List.length_map]
  rw [← hR,← hX]
  refine Ok.of_body layOk Try.func96 rfl (by decide) (by simp [Try.ntmps96]) fun C hP hn hσ hfix hdd=>?_
  rw [show Try.f96.ntmps = 19 from rfl] at hn
  have hL:LayOk C.P L:=hP ▸ layOk
  have hm:C.P.follows .mixedOrders = true:=hP ▸ mixed
  repeat (first|((first|refine sA hL hn rfl ?_|refine sB hL hn rfl ?_);simp only [go_sem,jf,jh,ji,ja,jb,reduceIte,jc,jg,jd,je,reduceCtorEq,hXl])|((first|refine sC ?_|refine sH ?_|refine sI ?_|refine sJ ?_);try simp only [jk,jl,jm,jn,if_true,if_false,jb])|refine sD ?_|refine sE ?_|refine sF rfl ?_|refine sG rfl ?_)
  refine SW.lpg (fun k:Nat=>⟨[(0,.vec c 1 X),(1,.int .i64 v),(7,.int .i64 ks.length),(8,.int .i64 k)],σ⟩) (fun k=>ks.length - k) (fun k=>k≤ks.length∧idxF v (ks.drop k) k = R) 0 ⟨by omega,hR.symm⟩ (.of rfl (by simp [agree,lk])) ?_
  rintro k ⟨hk,hrest⟩
  by_cases hlt:k < ks.length
  · have e1:decide ((k:Int) < ((ks.length:Nat):Int)) = true:=decide_eq_true (by omega)
    have e2:(0≤(k:Int)∧(k:Int) < ((X.length:Nat):Int)):=by omega
    obtain ⟨p,hp⟩:∃ p,p = ks[k]'hlt:=⟨_,rfl⟩
    have e3:X[k]?.getD .undef = .int .i64 p:=by rw [hX,hp]; simp [hlt,eI]
    have w1:IntKind.i64.wrap ((k:Int)+1) = ((k+1:Nat):Int):=wi (by omega) (by omega)
    rw [List.drop_eq_getElem_cons hlt,← hp] at hrest
    simp only [idxF] at hrest
    by_cases hv:v = p
    · rw [if_pos hv] at hrest
      have d1:(v == p) = true:=by simpa using hv
      repeat (first|((first|refine sA hL hn rfl ?_|refine sB hL hn rfl ?_);simp only [go_sem,jf,jh,ji,ja,jb,reduceIte,jc,jg,jd,je,reduceCtorEq,e1,e2,e3,d1])|((first|refine sC ?_|refine sH ?_|refine sI ?_|refine sJ ?_);try simp only [jk,jl,jm,jn,if_true,if_false,jb])|refine sD ?_|refine sE ?_|refine sF rfl ?_|refine sG rfl ?_)
      rw [← hrest]
      exact ⟨_,_,_,Ghost.refl _ _,rfl,GhostV.refl _ _ _,rfl⟩
    · rw [if_neg hv] at hrest
      have d1:(v == p) = false:=by simpa using hv
      repeat (first|((first|refine sA hL hn rfl ?_|refine sB hL hn rfl ?_);simp only [go_sem,jf,jh,ji,ja,jb,reduceIte,jc,jg,jd,je,reduceCtorEq,e1,e2,e3,d1,w1])|((first|refine sC ?_|refine sH ?_|refine sI ?_|refine sJ ?_);try simp only [jk,jl,jm,jn,if_true,if_false,jb])|refine sD ?_|refine sE ?_|refine sF rfl ?_|refine sG rfl ?_)
      exact Lp.nextg (k+1) ⟨by omega,hrest⟩ (by omega) (.of rfl (by simp [agree,lk]))
  · have e1:decide ((k:Int) < ((ks.length:Nat):Int)) = false:=decide_eq_false (by omega)
    rw [List.drop_of_length_le (by omega)] at hrest
    simp only [idxF] at hrest
    repeat (first|((first|refine sA hL hn rfl ?_|refine sB hL hn rfl ?_);simp only [go_sem,jf,jh,ji,ja,jb,reduceIte,jc,jg,jd,je,reduceCtorEq,e1])|((first|refine sC ?_|refine sH ?_|refine sI ?_|refine sJ ?_);try simp only [jk,jl,jm,jn,if_true,if_false,jb])|refine sD ?_|refine sE ?_|refine sF rfl ?_|refine sG rfl ?_)
    rw [← hrest]
    exact ⟨_,_,_,Ghost.refl _ _,rfl,GhostV.refl _ _ _,rfl⟩
def hasF (v:Int) (ks:List Int):Bool:=decide (idxF v ks 0 ≥ 0)
theorem contains_ok (c:Nat) (ks:List Int) (v:Int) (hl:ks.length≤1048576) (σ:List Ob):Ok Try.prog 88 [.vec c 1 (ks.map eI),.int .i64 v] σ (.ret (.bool (hasF v ks))) σ:=by
  have h:=index_ok c ks v hl
  obtain ⟨X,hX⟩:∃ X,X = ks.map eI:=⟨_,rfl⟩
  obtain ⟨r,hr⟩:∃ r,r = idxF v ks 0:=⟨_,rfl⟩
  rw [← hX,← hr] at h
  unfold hasF
  rw [← hX,← hr]
  refine Ok.of_body layOk Try.func88 rfl (by decide) (by simp [Try.ntmps88]) fun C hP hn hσ hfix hdd=>?_
  rw [show Try.f88.ntmps = 9 from rfl] at hn
  have hL:LayOk C.P L:=hP ▸ layOk
  have hm:C.P.follows .mixedOrders = true:=hP ▸ mixed
  repeat (first|((first|refine sA hL hn rfl ?_|refine sB hL hn rfl ?_);simp only [go_sem,jf,jh,ji,ja,jb,reduceIte,jc,jg,jd,je,reduceCtorEq])|((first|refine sC ?_|refine sH ?_|refine sI ?_|refine sJ ?_);try simp only [jk,jl,jm,jn,if_true,if_false,jb])|refine sD ?_|refine sE ?_|refine sF rfl ?_|refine sG rfl ?_)
  refine sK hP hL hn rfl rfl (h _) rfl rfl rfl rfl ?_; simp (maxSteps:=2000000) only [go_sem,jf,jh,ji,ja,jb,reduceIte,jc,jg,jd,je,reduceCtorEq]
  repeat (first|((first|refine sA hL hn rfl ?_|refine sB hL hn rfl ?_);simp only [go_sem,jf,jh,ji,ja,jb,reduceIte,jc,jg,jd,je,reduceCtorEq])|((first|refine sC ?_|refine sH ?_|refine sI ?_|refine sJ ?_);try simp only [jk,jl,jm,jn,if_true,if_false,jb])|refine sD ?_|refine sE ?_|refine sF rfl ?_|refine sG rfl ?_)
  exact ⟨_,_,_,Ghost.refl _ _,rfl,GhostV.refl _ _ _,rfl⟩
end Go.VL
end
section
set_option maxRecDepth 10000
set_option maxHeartbeats 4000000
namespace Go.VL
open Go Go.Proofs
open Nat renaming reduceAdd → ja, reduceEqDiff → jb, reduceSub → jc, reduceMul → jd, reduceLeDiff → je, reduceBEq → jf, reduceLT → jg
open Int renaming reduceLT → jh, reduceLE → ji
open Go.VL renaming thenK → jk, blockK → jl, loopK → jm, loopG → jn
def di75_7:List DI:=[⟨[4],[],false,[0],some 39,[]⟩,⟨[39],[0],false,[0],some 40,[0]⟩,⟨[40],[0,1],false,[0],some 41,[1]⟩,⟨[5,41],[0,1,2],false,[0],some 42,[2]⟩,⟨[41,42],rg 0 4,false,[0],some 43,[3,2]⟩,⟨[1,41],[0,1,2],false,[0],some 44,[2]⟩,⟨[41,44],[0,1,2,5],false,[0],some 45,[5,2]⟩,⟨[4,41],[0,1,2],false,[0],some 46,[2]⟩,⟨[41,46],[0,1,2,7],false,[0],some 47,[7,2]⟩,⟨[41,45,47],([0,1,2] ++ rg 5 4),false,[0],some 48,[6,8,2]⟩,⟨[41,48],([0,1,2] ++ rg 5 5),false,[0],some 49,[9,2]⟩,⟨[41,49],([0,1,2] ++ rg 5 6),false,[0],some 50,[10,2]⟩,⟨[41,43,50],rg 0 12,false,[0],some 51,[4,11,2]⟩,⟨[41,51],rg 0 13,false,[0],some 52,[2,12]⟩,⟨[52],rg 0 14,false,[0],some 53,[13,2]⟩,⟨[1,53],rg 0 15,false,[0],some 54,[14]⟩,⟨[53,54],rg 0 16,false,[0],some 55,[15,14]⟩,⟨[53,55],rg 0 17,false,[0],some 56,[16,14]⟩,⟨[53,56],rg 0 18,false,[0],some 57,[17,14]⟩,⟨[53,57],rg 0 19,false,[0],some 58,[18,14,14]⟩,⟨[5,58],rg 0 20,false,[0],some 59,[19]⟩,⟨[58,59],rg 0 21,false,[0],some 60,[20,19]⟩,⟨[58,60],rg 0 22,false,[0],some 61,[21,19]⟩,⟨[53,58,61],rg 0 23,false,[0],some 62,[19,22,14]⟩,⟨[53,62],rg 0 24,false,[0],some 63,[14,23]⟩]
def chk1 (hk:Bool):Option Int→List It→Bool
  | _,[]=>true
  | p,x :: r=>if (p.any fun y=>decide (x.1≤y)) = true∨(hk = true∧x.2 > 0) then false else chk1 hk (some x.1) r
def chk2:List Int→List Int→Bool
  | _,[]=>true
  | s,k :: r=>if k < 1∨k > 2048∨hasF k s = true then false else chk2 (s ++ [k]) r
def checkF (xs:List It) (ks:List Int):Int :=
  if xs.length < 1∨3 < xs.length∨(0 < ks.length∧ks.length ≠ xs.length+1) then 9 else if chk1 (decide (0 < ks.length)) none xs = true∧chk2 [] ks = true then 0 else 9
theorem checkF_zero {xs:List It} {ks:List Int} (h:checkF xs ks = 0):1≤xs.length∧xs.length≤3∧(ks.length = 0∨ks.length = xs.length+1):=by
  unfold checkF at h
  split at h
  · cases h
  · omega
def prevK (xs:List It) (k:Nat):Option Int:=if k = 0 then none else (xs[k - 1]?).map (·.1)
theorem leafCheck_ok (c c':Nat) (xs:List It) (ks:List Int) (hl:xs.length≤1048576) (hkl:ks.length≤1048576) (σ:List Ob):Ok Try.prog 75 [nodeD c c' xs ks] σ (.ret (.int .i64 (checkF xs ks))) σ:=by
  obtain ⟨X,hX⟩:∃ X,X = xs.map eT:=⟨_,rfl⟩
  have hXl:X.length = xs.length:=by rw [hX,List.length_map]
  obtain ⟨Y,hY⟩:∃ Y,Y = ks.map eI:=⟨_,rfl⟩
  have hYl:Y.length = ks.length:=by rw [hY,List.length_map]
  have hlow:∀ m,Low m (.vec c 2 X):=fun m=>by rw [hX]; exact low_items m c xs
  have hlowY:∀ m,Low m (.vec c' 1 Y):=fun m=>by rw [hY]; exact low_kids m c' ks
  unfold nodeD
  rw [← hX,← hY]
  obtain ⟨N,hN⟩:∃ N,N = Ob.arr 95 2 [.agg [.vec c 2 X,.vec c' 1 Y]]:=⟨_,rfl⟩
  have hNl:lowOb 1 N:=by rw [hN]; simp [lk,low_int,low_bool,low_str,low_nils,low_nilp,low_nilf,low_nili,low_undef,low_skip,low_vec,low_agg,low_tup,low_fn,low_vptr,low_iface,low_ptr,low_sl,low_mp,low_it,low_yld,low_emp,lowEnv,lowObs,lowOb,tmpObs,isArr,hlow,hlowY]
  refine OkE.ok (Q:=fun o σ'=>o = .ret (.int .i64 (checkF xs ks))∧σ' = σ) ?_ (fun o σ' h=>h)
  refine (OkE.thaw (c:=0) (R:=fun D=>D = .int .i64 (checkF xs ks)) ?_ (by simp [low_agg,low_int,hlow,hlowY]) σ).mono fun o σ' ⟨e,D',e1,e2⟩=>⟨by rw [e1,e2],e⟩
  refine OkE.of_body layOk Try.func75 rfl (by decide) (by simp [Try.ntmps75]) fun C hP hn hσ hfix hdd=>?_
  rw [show Try.f75.ntmps = 88 from rfl] at hn
  have hL:LayOk C.P L:=hP ▸ layOk
  have hm:C.P.follows .mixedOrders = true:=hP ▸ mixed
  by_cases b1:xs.length < 1
  · have d1:decide (((xs.length:Nat):Int) < 1) = true:=decide_eq_true (by omega)
    rw [show checkF xs ks = 9 by simp [checkF,b1]]
    repeat (first|((first|refine sA hL hn rfl ?_|refine sB hL hn rfl ?_);simp only [go_sem,jf,jh,ji,ja,jb,reduceIte,jc,jg,jd,je,reduceCtorEq,hXl,d1])|((first|refine sC ?_|refine sH ?_|refine sI ?_|refine sJ ?_);try simp only [jk,jl,jm,jn,if_true,if_false,jb])|refine sD ?_|refine sE ?_|refine sF rfl ?_|refine sG rfl ?_)
    refine ⟨_,[.arr 95 2 [.agg [.vec c 2 X,.vec c' 1 Y]]],⟨_,_,rfl,.int,rfl⟩,?_⟩
    exact ⟨_,_,_,Ghost.refl _ _,rfl,GhostV.refl _ _ _,rfl⟩
  have d1:decide (((xs.length:Nat):Int) < 1) = false:=decide_eq_false (by omega)
  by_cases b2:3 < xs.length
  · have d2:decide (((xs.length:Nat):Int) > 3) = true:=decide_eq_true (by omega)
    rw [show checkF xs ks = 9 by simp [checkF,b2]]
    repeat (first|((first|refine sA hL hn rfl ?_|refine sB hL hn rfl ?_);simp only [go_sem,jf,jh,ji,ja,jb,reduceIte,jc,jg,jd,je,reduceCtorEq,hXl,d1,d2])|((first|refine sC ?_|refine sH ?_|refine sI ?_|refine sJ ?_);try simp only [jk,jl,jm,jn,if_true,if_false,jb])|refine sD ?_|refine sE ?_|refine sF rfl ?_|refine sG rfl ?_)
    refine ⟨_,[.arr 95 2 [.agg [.vec c 2 X,.vec c' 1 Y]]],⟨_,_,rfl,.int,rfl⟩,?_⟩
    exact ⟨_,_,_,Ghost.refl _ _,rfl,GhostV.refl _ _ _,rfl⟩
  have d2:decide (((xs.length:Nat):Int) > 3) = false:=decide_eq_false (by omega)
  have w0:IntKind.i64.wrap (((xs.length:Nat):Int)+1) = ((xs.length+1:Nat):Int):=wi (by omega) (by omega)
  have hfirst:(0 < ks.length∧ks.length ≠ xs.length+1)∨(decide (((ks.length:Nat):Int) > 0) = true∧(((ks.length:Nat):Int) != ((xs.length+1:Nat):Int)) = false)∨decide (((ks.length:Nat):Int) > 0) = false:=by
    by_cases h:0 < ks.length
    · by_cases h2:ks.length = xs.length+1
      · exact .inr (.inl ⟨decide_eq_true (by omega),by simp; omega⟩)
      · exact .inl ⟨h,h2⟩
    · exact .inr (.inr (decide_eq_false (by omega)))
  rcases hfirst with h | h | h
  · have d3:decide (((ks.length:Nat):Int) > 0) = true:=decide_eq_true (by omega)
    have d4:(((ks.length:Nat):Int) != ((xs.length+1:Nat):Int)) = true:=by simp; omega
    rw [show checkF xs ks = 9 by unfold checkF; rw [if_pos (.inr (.inr h))]]
    repeat (first|((first|refine sA hL hn rfl ?_|refine sB hL hn rfl ?_);simp only [go_sem,jf,jh,ji,ja,jb,reduceIte,jc,jg,jd,je,reduceCtorEq,hXl,hYl,d1,d2,d3,w0,d4])|((first|refine sC ?_|refine sH ?_|refine sI ?_|refine sJ ?_);try simp only [jk,jl,jm,jn,if_true,if_false,jb])|refine sD ?_|refine sE ?_|refine sF rfl ?_|refine sG rfl ?_)
    refine ⟨_,[.arr 95 2 [.agg [.vec c 2 X,.vec c' 1 Y]]],⟨_,_,rfl,.int,rfl⟩,?_⟩
    exact ⟨_,_,_,Ghost.refl _ _,rfl,GhostV.refl _ _ _,rfl⟩
  rotate_left
  repeat (first|((first|refine sA hL hn rfl ?_|refine sB hL hn rfl ?_);simp only [go_sem,jf,jh,ji,ja,jb,reduceIte,jc,jg,jd,je,reduceCtorEq,hXl,hYl,d1,d2,h])|((first|refine sC ?_|refine sH ?_|refine sI ?_|refine sJ ?_);try simp only [jk,jl,jm,jn,if_true,if_false,jb])|refine sD ?_|refine sE ?_|refine sF rfl ?_|refine sG rfl ?_)
  rotate_left
  repeat (first|((first|refine sA hL hn rfl ?_|refine sB hL hn rfl ?_);simp only [go_sem,jf,jh,ji,ja,jb,reduceIte,jc,jg,jd,je,reduceCtorEq,hXl,hYl,d1,d2,h.1,w0,h.2])|((first|refine sC ?_|refine sH ?_|refine sI ?_|refine sJ ?_);try simp only [jk,jl,jm,jn,if_true,if_false,jb])|refine sD ?_|refine sE ?_|refine sF rfl ?_|refine sG rfl ?_)
  all_goals
    have hcf:checkF xs ks = if chk1 (decide (0 < ks.length)) none xs = true∧chk2 [] ks = true then 0 else 9:=by
      unfold checkF
      rw [if_neg]
      rintro (e | e | ⟨e1,e2⟩)
      · exact b1 e
      · exact b2 e
      · first | (have:=of_decide_eq_false h; omega) | (have:=h.2; simp at this; omega)
    rw [hcf]
    obtain ⟨kb,hkb⟩:∃ kb,kb = decide (0 < ks.length):=⟨_,rfl⟩
    obtain ⟨r1,hr1⟩:∃ r1,r1 = chk1 kb none xs:=⟨_,rfl⟩
    obtain ⟨r2,hr2⟩:∃ r2,r2 = chk2 [] ks:=⟨_,rfl⟩
    rw [← hkb,← hr1,← hr2]
    have dk:decide (((ks.length:Nat):Int) > 0) = kb:=by rw [hkb]; simp
    clear hcf h
    clear hkb
    refine SW.lpg (fun k:Nat=>⟨[(1,.ptr 0 1 0 0),(32,.vec c 2 X),(33,.int .i64 xs.length),(34,.int .i64 k)],[N]⟩) (fun k=>xs.length - k) (fun k=>k≤xs.length∧chk1 kb (prevK xs k) (xs.drop k) = r1) 0 ⟨by omega,hr1.symm⟩ ?_ ?_
    · exact .of (by rw [hN]) (by simp [agree,lk])
    rintro k ⟨hk,hrest⟩
    by_cases hlt:k < xs.length
    · have e1:decide ((k:Int) < ((xs.length:Nat):Int)) = true:=decide_eq_true (by omega)
      have e2:(0≤(k:Int)∧(k:Int) < ((X.length:Nat):Int)):=by omega
      obtain ⟨p,hp⟩:∃ p,p = xs[k]'hlt:=⟨_,rfl⟩
      obtain ⟨p1,p2⟩:=p
      have e3:X[k]?.getD .undef = .agg [.int .u64 p1,.int .u64 p2]:=by rw [hX]; simp [hlt,eT,← hp]
      have w1:IntKind.i64.wrap ((k:Int)+1) = ((k+1:Nat):Int):=wi (by omega) (by omega)
      have hpn:prevK xs (k+1) = some p1:=by simp [prevK,hlt,← hp]
      rw [List.drop_eq_getElem_cons hlt,← hp] at hrest
      simp only [chk1] at hrest
      rw [hN]
      repeat (first|((first|refine sA hL hn rfl ?_|refine sB hL hn rfl ?_);simp only [go_sem,jf,jh,ji,ja,jb,reduceIte,jc,jg,jd,je,reduceCtorEq,e1,e2,e3])|((first|refine sC ?_|refine sH ?_|refine sI ?_|refine sJ ?_);try simp only [jk,jl,jm,jn,if_true,if_false,jb])|refine sD ?_|refine sE ?_|refine sF rfl ?_|refine sG rfl ?_)
      have next:∀ {env:List (Nat × DV)} {q:List Ob},agree env [(1,.ptr 0 1 0 0),(32,.vec c 2 X),(33,.int .i64 xs.length),(34,.int .i64 ((k+1:Nat):Int))]→tmpObs 1 q→Ghost C ⟨env,Ob.arr 95 2 [.agg [.vec c 2 X,.vec c' 1 Y]] :: q⟩ ⟨[(1,.ptr 0 1 0 0),(32,.vec c 2 X),(33,.int .i64 xs.length),(34,.int .i64 ((k+1:Nat):Int))],[Ob.arr 95 2 [.agg [.vec c 2 X,.vec c' 1 Y]]]⟩:=by
        intro env q hag hq
        have:=Ghost.keep (C:=C) (σ:=[]) (X:=Ob.arr 95 2 [.agg [.vec c 2 X,.vec c' 1 Y]] :: q) 1 _ hσ hfix hag (by simp [lk,low_int,low_bool,low_str,low_nils,low_nilp,low_nilf,low_nili,low_undef,low_skip,low_vec,low_agg,low_tup,low_fn,low_vptr,low_iface,low_ptr,low_sl,low_mp,low_it,low_yld,low_emp,lowEnv,lowObs,lowOb,tmpObs,isArr,hlow]) (by simp [lk,low_int,low_bool,low_str,low_nils,low_nilp,low_nilf,low_nili,low_undef,low_skip,low_vec,low_agg,low_tup,low_fn,low_vptr,low_iface,low_ptr,low_sl,low_mp,low_it,low_yld,low_emp,lowEnv,lowObs,lowOb,tmpObs,isArr,hlow,hlowY]) hq
        exact this
      by_cases hk0:k = 0
      · have d5:decide ((k:Int) > 0) = false:=decide_eq_false (by omega)
        have hp0:prevK xs k = none:=by simp [prevK,hk0]
        rw [hp0] at hrest
        simp only [Option.any_none,Bool.false_eq_true,false_or] at hrest
        cases kb
        · rw [if_neg (by simp)] at hrest
          refine sM hL hm hn di75_7 [[Ob.arr 95 2 [.agg [.vec c 2 X,.vec c' 1 Y]],.arr 27 2 [.agg [.int .u64 p1,.int .u64 p2]]]] rfl rfl rfl ?_
          unfold di75_7
          repeat (rw [dgo_cons]; simp (maxSteps:=2000000) only [go_sem,jf,jh,ji,ja,jb,reduceIte,jc,jg,jd,je,reduceCtorEq,hYl,dk,d5])
          try rw [dgo_nil]
          try simp only [go_sem,jf,jh,ji,ja,jb,reduceIte,jc,jg,jd,je,reduceCtorEq,hYl,dk,d5]
          repeat (first|((first|refine sA hL hn rfl ?_|refine sB hL hn rfl ?_);simp only [go_sem,jf,jh,ji,ja,jb,reduceIte,jc,jg,jd,je,reduceCtorEq,w1])|((first|refine sC ?_|refine sH ?_|refine sI ?_|refine sJ ?_);try simp only [jk,jl,jm,jn,if_true,if_false,jb])|refine sD ?_|refine sE ?_|refine sF rfl ?_|refine sG rfl ?_)
          refine Lp.nextg (k+1) ⟨by omega,by rw [hpn]; exact hrest⟩ (by omega) ?_
          refine next ?_ ?_
          · simp [agree,lk]
          · simp [lk,low_int,low_bool,low_str,low_nils,low_nilp,low_nilf,low_nili,low_undef,low_skip,low_vec,low_agg,low_tup,low_fn,low_vptr,low_iface,low_ptr,low_sl,low_mp,low_it,low_yld,low_emp,lowEnv,lowObs,lowOb,tmpObs,isArr]
        · by_cases hv:p2 > 0
          · have d6:decide (p2 > 0) = true:=decide_eq_true hv
            rw [if_pos ⟨rfl,hv⟩] at hrest
            refine sM hL hm hn di75_7 [[Ob.arr 95 2 [.agg [.vec c 2 X,.vec c' 1 Y]],.arr 27 2 [.agg [.int .u64 p1,.int .u64 p2]]]] rfl rfl rfl ?_
            unfold di75_7
            repeat (rw [dgo_cons]; simp (maxSteps:=2000000) only [go_sem,jf,jh,ji,ja,jb,reduceIte,jc,jg,jd,je,reduceCtorEq,hYl,dk,d5,d6])
            try rw [dgo_nil]
            try simp only [go_sem,jf,jh,ji,ja,jb,reduceIte,jc,jg,jd,je,reduceCtorEq,hYl,dk,d5,d6]
            repeat (first|((first|refine sA hL hn rfl ?_|refine sB hL hn rfl ?_);simp only [go_sem,jf,jh,ji,ja,jb,reduceIte,jc,jg,jd,je,reduceCtorEq])|((first|refine sC ?_|refine sH ?_|refine sI ?_|refine sJ ?_);try simp only [jk,jl,jm,jn,if_true,if_false,jb])|refine sD ?_|refine sE ?_|refine sF rfl ?_|refine sG rfl ?_)
            rw [← hrest,if_neg (by simp)]
            refine ⟨_,[.arr 95 2 [.agg [.vec c 2 X,.vec c' 1 Y]],.arr 27 2 [.agg [.int .u64 p1,.int .u64 p2]]],⟨_,_,rfl,.int,rfl⟩,?_⟩
            exact ⟨_,_,_,Ghost.refl _ _,rfl,GhostV.refl _ _ _,rfl⟩
          · have d6:decide (p2 > 0) = false:=decide_eq_false hv
            rw [if_neg (fun e=>hv e.2)] at hrest
            refine sM hL hm hn di75_7 [[Ob.arr 95 2 [.agg [.vec c 2 X,.vec c' 1 Y]],.arr 27 2 [.agg [.int .u64 p1,.int .u64 p2]]]] rfl rfl rfl ?_
            unfold di75_7
            repeat (rw [dgo_cons]; simp (maxSteps:=2000000) only [go_sem,jf,jh,ji,ja,jb,reduceIte,jc,jg,jd,je,reduceCtorEq,hYl,dk,d5,d6])
            try rw [dgo_nil]
            try simp only [go_sem,jf,jh,ji,ja,jb,reduceIte,jc,jg,jd,je,reduceCtorEq,hYl,dk,d5,d6]
            repeat (first|((first|refine sA hL hn rfl ?_|refine sB hL hn rfl ?_);simp only [go_sem,jf,jh,ji,ja,jb,reduceIte,jc,jg,jd,je,reduceCtorEq,w1])|((first|refine sC ?_|refine sH ?_|refine sI ?_|refine sJ ?_);try simp only [jk,jl,jm,jn,if_true,if_false,jb])|refine sD ?_|refine sE ?_|refine sF rfl ?_|refine sG rfl ?_)
            refine Lp.nextg (k+1) ⟨by omega,by rw [hpn]; exact hrest⟩ (by omega) ?_
            refine next ?_ ?_
            · simp [agree,lk]
            · simp [lk,low_int,low_bool,low_str,low_nils,low_nilp,low_nilf,low_nili,low_undef,low_skip,low_vec,low_agg,low_tup,low_fn,low_vptr,low_iface,low_ptr,low_sl,low_mp,low_it,low_yld,low_emp,lowEnv,lowObs,lowOb,tmpObs,isArr]
      · have d5:decide ((k:Int) > 0) = true:=decide_eq_true (by omega)
        obtain ⟨o,ho⟩:∃ o,o = xs[k - 1]'(by omega):=⟨_,rfl⟩
        obtain ⟨o1,o2⟩:=o
        have hp0:prevK xs k = some o1:=by simp [prevK,hk0,show k - 1 < xs.length by omega,← ho]
        have w2:IntKind.i64.wrap ((k:Int) - 1) = ((k - 1:Nat):Int):=wi (by omega) (by omega)
        have e4:(0≤((k - 1:Nat):Int)∧((k - 1:Nat):Int) < ((X.length:Nat):Int)):=by omega
        have e5:X[k - 1]?.getD .undef = .agg [.int .u64 o1,.int .u64 o2]:=by rw [hX]; simp [show k - 1 < xs.length by omega,eT,← ho]
        obtain ⟨q,hq⟩:∃ q,q = k - 1:=⟨_,rfl⟩
        rw [← hq] at w2 e4 e5
        rw [hp0] at hrest
        simp only [Option.any_some,decide_eq_true_eq] at hrest
        by_cases hle:p1≤o1
        · have d7:decide (p1≤o1) = true:=decide_eq_true hle
          rw [if_pos (.inl hle)] at hrest
          refine sM hL hm hn di75_7 [[Ob.arr 95 2 [.agg [.vec c 2 X,.vec c' 1 Y]],.arr 27 2 [.agg [.int .u64 p1,.int .u64 p2]]]] rfl rfl rfl ?_
          unfold di75_7
          repeat (rw [dgo_cons]; simp (maxSteps:=2000000) only [go_sem,jf,jh,ji,ja,jb,reduceIte,jc,jg,jd,je,reduceCtorEq,hYl,dk,d5,w2,e4,e5,d7])
          try rw [dgo_nil]
          try simp only [go_sem,jf,jh,ji,ja,jb,reduceIte,jc,jg,jd,je,reduceCtorEq,hYl,dk,d5,w2,e4,e5,d7]
          repeat (first|((first|refine sA hL hn rfl ?_|refine sB hL hn rfl ?_);simp only [go_sem,jf,jh,ji,ja,jb,reduceIte,jc,jg,jd,je,reduceCtorEq])|((first|refine sC ?_|refine sH ?_|refine sI ?_|refine sJ ?_);try simp only [jk,jl,jm,jn,if_true,if_false,jb])|refine sD ?_|refine sE ?_|refine sF rfl ?_|refine sG rfl ?_)
          rw [← hrest,if_neg (by simp)]
          refine ⟨_,[.arr 95 2 [.agg [.vec c 2 X,.vec c' 1 Y]],.arr 27 2 [.agg [.int .u64 p1,.int .u64 p2]]],⟨_,_,rfl,.int,rfl⟩,?_⟩
          exact ⟨_,_,_,Ghost.refl _ _,rfl,GhostV.refl _ _ _,rfl⟩
        · have d7:decide (p1≤o1) = false:=decide_eq_false hle
          cases kb
          · rw [if_neg (by simp [hle])] at hrest
            refine sM hL hm hn di75_7 [[Ob.arr 95 2 [.agg [.vec c 2 X,.vec c' 1 Y]],.arr 27 2 [.agg [.int .u64 p1,.int .u64 p2]]]] rfl rfl rfl ?_
            unfold di75_7
            repeat (rw [dgo_cons]; simp (maxSteps:=2000000) only [go_sem,jf,jh,ji,ja,jb,reduceIte,jc,jg,jd,je,reduceCtorEq,hYl,dk,d5,w2,e4,e5,d7])
            try rw [dgo_nil]
            try simp only [go_sem,jf,jh,ji,ja,jb,reduceIte,jc,jg,jd,je,reduceCtorEq,hYl,dk,d5,w2,e4,e5,d7]
            repeat (first|((first|refine sA hL hn rfl ?_|refine sB hL hn rfl ?_);simp only [go_sem,jf,jh,ji,ja,jb,reduceIte,jc,jg,jd,je,reduceCtorEq,w1])|((first|refine sC ?_|refine sH ?_|refine sI ?_|refine sJ ?_);try simp only [jk,jl,jm,jn,if_true,if_false,jb])|refine sD ?_|refine sE ?_|refine sF rfl ?_|refine sG rfl ?_)
            refine Lp.nextg (k+1) ⟨by omega,by rw [hpn]; exact hrest⟩ (by omega) ?_
            refine next ?_ ?_
            · simp [agree,lk]
            · simp [lk,low_int,low_bool,low_str,low_nils,low_nilp,low_nilf,low_nili,low_undef,low_skip,low_vec,low_agg,low_tup,low_fn,low_vptr,low_iface,low_ptr,low_sl,low_mp,low_it,low_yld,low_emp,lowEnv,lowObs,lowOb,tmpObs,isArr]
          · by_cases hv:p2 > 0
            · have d6:decide (p2 > 0) = true:=decide_eq_true hv
              rw [if_pos (.inr ⟨rfl,hv⟩)] at hrest
              refine sM hL hm hn di75_7 [[Ob.arr 95 2 [.agg [.vec c 2 X,.vec c' 1 Y]],.arr 27 2 [.agg [.int .u64 p1,.int .u64 p2]]]] rfl rfl rfl ?_
              unfold di75_7
              repeat (rw [dgo_cons]; simp (maxSteps:=2000000) only [go_sem,jf,jh,ji,ja,jb,reduceIte,jc,jg,jd,je,reduceCtorEq,hYl,dk,d5,w2,e4,e5,d7,d6])
              try rw [dgo_nil]
              try simp only [go_sem,jf,jh,ji,ja,jb,reduceIte,jc,jg,jd,je,reduceCtorEq,hYl,dk,d5,w2,e4,e5,d7,d6]
              repeat (first|((first|refine sA hL hn rfl ?_|refine sB hL hn rfl ?_);simp only [go_sem,jf,jh,ji,ja,jb,reduceIte,jc,jg,jd,je,reduceCtorEq])|((first|refine sC ?_|refine sH ?_|refine sI ?_|refine sJ ?_);try simp only [jk,jl,jm,jn,if_true,if_false,jb])|refine sD ?_|refine sE ?_|refine sF rfl ?_|refine sG rfl ?_)
              rw [← hrest,if_neg (by simp)]
              refine ⟨_,[.arr 95 2 [.agg [.vec c 2 X,.vec c' 1 Y]],.arr 27 2 [.agg [.int .u64 p1,.int .u64 p2]]],⟨_,_,rfl,.int,rfl⟩,?_⟩
              exact ⟨_,_,_,Ghost.refl _ _,rfl,GhostV.refl _ _ _,rfl⟩
            · have d6:decide (p2 > 0) = false:=decide_eq_false hv
              rw [if_neg (by simp [hle,hv])] at hrest
              refine sM hL hm hn di75_7 [[Ob.arr 95 2 [.agg [.vec c 2 X,.vec c' 1 Y]],.arr 27 2 [.agg [.int .u64 p1,.int .u64 p2]]]] rfl rfl rfl ?_
              unfold di75_7
              repeat (rw [dgo_cons]; simp (maxSteps:=2000000) only [go_sem,jf,jh,ji,ja,jb,reduceIte,jc,jg,jd,je,reduceCtorEq,hYl,dk,d5,w2,e4,e5,d7,d6])
              try rw [dgo_nil]
              try simp only [go_sem,jf,jh,ji,ja,jb,reduceIte,jc,jg,jd,je,reduceCtorEq,hYl,dk,d5,w2,e4,e5,d7,d6]
              repeat (first|((first|refine sA hL hn rfl ?_|refine sB hL hn rfl ?_);simp only [go_sem,jf,jh,ji,ja,jb,reduceIte,jc,jg,jd,je,reduceCtorEq,w1])|((first|refine sC ?_|refine sH ?_|refine sI ?_|refine sJ ?_);try simp only [jk,jl,jm,jn,if_true,if_false,jb])|refine sD ?_|refine sE ?_|refine sF rfl ?_|refine sG rfl ?_)
              refine Lp.nextg (k+1) ⟨by omega,by rw [hpn]; exact hrest⟩ (by omega) ?_
              refine next ?_ ?_
              · simp [agree,lk]
              · simp [lk,low_int,low_bool,low_str,low_nils,low_nilp,low_nilf,low_nili,low_undef,low_skip,low_vec,low_agg,low_tup,low_fn,low_vptr,low_iface,low_ptr,low_sl,low_mp,low_it,low_yld,low_emp,lowEnv,lowObs,lowOb,tmpObs,isArr]
    · have e1:decide ((k:Int) < ((xs.length:Nat):Int)) = false:=decide_eq_false (by omega)
      rw [List.drop_of_length_le (by omega)] at hrest
      simp only [chk1] at hrest
      rw [← hrest,hN]
      repeat (first|((first|refine sA hL hn rfl ?_|refine sB hL hn rfl ?_);simp only [go_sem,jf,jh,ji,ja,jb,reduceIte,jc,jg,jd,je,reduceCtorEq,e1,hYl])|((first|refine sC ?_|refine sH ?_|refine sI ?_|refine sJ ?_);try simp only [jk,jl,jm,jn,if_true,if_false,jb])|refine sD ?_|refine sE ?_|refine sF rfl ?_|refine sG rfl ?_)
      refine SW.lpg (fun k:Nat=>⟨[(1,.ptr 0 1 0 0),(66,.vec c' 1 Y),(67,.int .i64 ks.length),(68,.int .i64 k)],[N]⟩) (fun k=>ks.length - k) (fun k=>k≤ks.length∧chk2 (ks.take k) (ks.drop k) = r2) 0 ⟨by omega,hr2.symm⟩ ?_ ?_
      · exact .of (by rw [hN]) (by simp [agree,lk])
      rintro k ⟨hk,hrest⟩
      by_cases hlt:k < ks.length
      · have e1:decide ((k:Int) < ((ks.length:Nat):Int)) = true:=decide_eq_true (by omega)
        have e2:(0≤(k:Int)∧(k:Int) < ((Y.length:Nat):Int)):=by omega
        obtain ⟨p,hp⟩:∃ p,p = ks[k]'hlt:=⟨_,rfl⟩
        have e3:Y[k]?.getD .undef = .int .i64 p:=by rw [hY]; simp [hlt,eI,← hp]
        have w1:IntKind.i64.wrap ((k:Int)+1) = ((k+1:Nat):Int):=wi (by omega) (by omega)
        have hcon:=contains_ok c' (ks.take k) p (by simp; omega)
        have hty:(ks.take k).map eI = Y.take k:=by rw [hY,List.map_take]
        rw [hty] at hcon
        have bk:bound (some (.int .i64 (k:Int))) Y.length Y.length = some k:=bound_i (by omega)
        have htk:ks.take k ++ [p] = ks.take (k+1):=by rw [hp]; exact List.take_append_getElem hlt
        rw [List.drop_eq_getElem_cons hlt,← hp] at hrest
        simp only [chk2] at hrest
        obtain ⟨hb,hhb⟩:∃ hb,hb = hasF p (ks.take k):=⟨_,rfl⟩
        rw [← hhb] at hrest hcon
        rw [hN]
        by_cases h1:p < 1
        · have d5:decide (p < 1) = true:=decide_eq_true h1
          rw [if_pos (.inl h1)] at hrest
          repeat (first|((first|refine sA hL hn rfl ?_|refine sB hL hn rfl ?_);simp only [go_sem,jf,jh,ji,ja,jb,reduceIte,jc,jg,jd,je,reduceCtorEq,e1,e2,e3,d5])|((first|refine sC ?_|refine sH ?_|refine sI ?_|refine sJ ?_);try simp only [jk,jl,jm,jn,if_true,if_false,jb])|refine sD ?_|refine sE ?_|refine sF rfl ?_|refine sG rfl ?_)
          rw [← hrest,if_neg (by simp)]
          refine ⟨_,[.arr 95 2 [.agg [.vec c 2 X,.vec c' 1 Y]]],⟨_,_,rfl,.int,rfl⟩,?_⟩
          exact ⟨_,_,_,Ghost.refl _ _,rfl,GhostV.refl _ _ _,rfl⟩
        · have d5:decide (p < 1) = false:=decide_eq_false h1
          by_cases h2:p > 2048
          · have d6:decide (p > 2048) = true:=decide_eq_true h2
            rw [if_pos (.inr (.inl h2))] at hrest
            repeat (first|((first|refine sA hL hn rfl ?_|refine sB hL hn rfl ?_);simp only [go_sem,jf,jh,ji,ja,jb,reduceIte,jc,jg,jd,je,reduceCtorEq,e1,e2,e3,d5,d6])|((first|refine sC ?_|refine sH ?_|refine sI ?_|refine sJ ?_);try simp only [jk,jl,jm,jn,if_true,if_false,jb])|refine sD ?_|refine sE ?_|refine sF rfl ?_|refine sG rfl ?_)
            rw [← hrest,if_neg (by simp)]
            refine ⟨_,[.arr 95 2 [.agg [.vec c 2 X,.vec c' 1 Y]]],⟨_,_,rfl,.int,rfl⟩,?_⟩
            exact ⟨_,_,_,Ghost.refl _ _,rfl,GhostV.refl _ _ _,rfl⟩
          · have d6:decide (p > 2048) = false:=decide_eq_false h2
            repeat (first|((first|refine sA hL hn rfl ?_|refine sB hL hn rfl ?_);simp only [go_sem,jf,jh,ji,ja,jb,reduceIte,jc,jg,jd,je,reduceCtorEq,e1,e2,e3,d5,d6,sliceDV,bk,List.drop_zero])|((first|refine sC ?_|refine sH ?_|refine sI ?_|refine sJ ?_);try simp only [jk,jl,jm,jn,if_true,if_false,jb])|refine sD ?_|refine sE ?_|refine sF rfl ?_|refine sG rfl ?_)
            refine sK hP hL hn rfl rfl (hcon _) rfl rfl rfl rfl ?_; simp (maxSteps:=2000000) only [go_sem,jf,jh,ji,ja,jb,reduceIte,jc,jg,jd,je,reduceCtorEq]
            cases hb
            · rw [if_neg (by simp [h1,h2])] at hrest
              repeat (first|((first|refine sA hL hn rfl ?_|refine sB hL hn rfl ?_);simp only [go_sem,jf,jh,ji,ja,jb,reduceIte,jc,jg,jd,je,reduceCtorEq,w1])|((first|refine sC ?_|refine sH ?_|refine sI ?_|refine sJ ?_);try simp only [jk,jl,jm,jn,if_true,if_false,jb])|refine sD ?_|refine sE ?_|refine sF rfl ?_|refine sG rfl ?_)
              rw [htk] at hrest
              refine Lp.nextg (k+1) ⟨by omega,hrest⟩ (by omega) ?_
              exact .of rfl (by simp [agree,lk])
            · rw [if_pos (.inr (.inr rfl))] at hrest
              repeat (first|((first|refine sA hL hn rfl ?_|refine sB hL hn rfl ?_);simp only [go_sem,jf,jh,ji,ja,jb,reduceIte,jc,jg,jd,je,reduceCtorEq])|((first|refine sC ?_|refine sH ?_|refine sI ?_|refine sJ ?_);try simp only [jk,jl,jm,jn,if_true,if_false,jb])|refine sD ?_|refine sE ?_|refine sF rfl ?_|refine sG rfl ?_)
              rw [← hrest,if_neg (by simp)]
              refine ⟨_,[.arr 95 2 [.agg [.vec c 2 X,.vec c' 1 Y]]],⟨_,_,rfl,.int,rfl⟩,?_⟩
              exact ⟨_,_,_,Ghost.refl _ _,rfl,GhostV.refl _ _ _,rfl⟩
      · have e1:decide ((k:Int) < ((ks.length:Nat):Int)) = false:=decide_eq_false (by omega)
        rw [List.drop_of_length_le (by omega)] at hrest
        simp only [chk2] at hrest
        rw [← hrest,hN]
        repeat (first|((first|refine sA hL hn rfl ?_|refine sB hL hn rfl ?_);simp only [go_sem,jf,jh,ji,ja,jb,reduceIte,jc,jg,jd,je,reduceCtorEq,e1])|((first|refine sC ?_|refine sH ?_|refine sI ?_|refine sJ ?_);try simp only [jk,jl,jm,jn,if_true,if_false,jb])|refine sD ?_|refine sE ?_|refine sF rfl ?_|refine sG rfl ?_)
        refine ⟨_,[.arr 95 2 [.agg [.vec c 2 X,.vec c' 1 Y]]],⟨_,_,rfl,.int,rfl⟩,?_⟩
        exact ⟨_,_,_,Ghost.refl _ _,rfl,GhostV.refl _ _ _,rfl⟩
end Go.VL
end
