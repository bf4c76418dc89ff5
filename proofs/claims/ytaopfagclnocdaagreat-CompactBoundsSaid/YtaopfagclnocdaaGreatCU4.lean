/- Rows.CompactBoundsSaid -/
import Derived.Test.YtaopfagclnocdaaGreatCU3
import Derived.Test.YtaopfagclnocdaaGreatCU1
import Derived.ProofKit
import Derived.SliceStrings
import Derived.Deep.Slices
import Derived.Deep.Fields
import Derived.Lib.SmallJoins
namespace Go.Proofs.YtaopfagclnocdaaGreat
open Go.RowKit
open Go.RowKit Go.ChangeShapes Go.WideShapes Go.Deep
set_option linter.unusedVariables false
set_option maxHeartbeats 64000000
set_option maxRecDepth 100000
structure Bk where
 id:Int
 addr:Int
 weight:Int
deriving DecidableEq,Inhabited
structure Rec where
 kind:Int
 fl:Fl
 gen:Int
 bks:List Bk
 bk:Int
 till:Int
 count:Int
deriving DecidableEq,Inhabited
def zeroT:Tup:=⟨0,0,0,0,0⟩
def zeroF:Fl:=⟨zeroT,0,0,0⟩
def zeroRec:Rec:=⟨0,zeroF,0,[],0,0,0⟩
def mayBk (b:Bk):Bool:=decide (0≤b.id∧b.id≤65535) && decide (1≤b.weight∧b.weight≤10)
def mayRec (r:Rec):Bool:=
 if r.kind=1 then decide (MayF r.fl)
 else if r.kind=2 then decide (MayT r.fl.t)
 else if r.kind=3 then decide (0≤r.gen∧r.gen≤1000000) && (decide (r.bks.length≤16) && r.bks.all mayBk)
 else if r.kind=4 then decide (0≤r.bk∧r.bk≤65535) && decide (0≤r.till∧r.till≤1099511627776)
 else if r.kind=5 then decide (0≤r.bk∧r.bk≤65535)
 else if r.kind=6 then decide (0≤r.count∧r.count≤1000000)
 else false
def plainRec (r:Rec):Rec:=
 if r.kind=1 then ⟨1,r.fl,0,[],0,0,0⟩
 else if r.kind=2 then ⟨2,⟨r.fl.t,0,0,0⟩,0,[],0,0,0⟩
 else if r.kind=3 then ⟨3,zeroF,r.gen,r.bks,0,0,0⟩
 else if r.kind=4 then ⟨4,zeroF,0,[],r.bk,r.till,0⟩
 else if r.kind=5 then ⟨5,zeroF,0,[],r.bk,0,0⟩
 else if r.kind=6 then ⟨6,zeroF,0,[],0,0,r.count⟩
 else ⟨r.kind,zeroF,0,[],0,0,0⟩
def verOk (v:Int):Bool:=decide (1≤v∧v≤3)
def inFl (v:Int) (f:Fl):Fl:=⟨f.t,f.bk,if v < 2 then 0 else f.gen,if v < 3 then 0 else f.seen⟩
def inBk (v:Int) (b:Bk):Bk:=if v < 2 then ⟨b.id,b.addr,1⟩ else b
def inRec (r:Rec) (v:Int):Rec:=
 if verOk v=false then zeroRec else
 ⟨(plainRec r).kind,if r.kind=1 then inFl v (plainRec r).fl else (plainRec r).fl,(plainRec r).gen,(plainRec r).bks.map (inBk v),(plainRec r).bk,(plainRec r).till,(plainRec r).count⟩
def bkB (v:Int) (b:Bk):List UInt8:=be (u64 b.id) 2++be (u64 b.addr) 4++(if 2≤v then be (u64 b.weight) 1 else [])
def bksB (v:Int) (l:List Bk):List UInt8:=(l.map (bkB v)).flatten
def recBody (r:Rec) (v:Int):List UInt8:=
 if r.kind=1 then keyL r.fl.t++be (u64 r.fl.bk) 2++(if 2≤v then be (u64 r.fl.gen) 4 else [])++(if 3≤v then be (u64 r.fl.seen) 8 else [])
 else if r.kind=2 then keyL r.fl.t
 else if r.kind=3 then be (u64 r.gen) 4++be (u64 r.bks.length) 1++bksB v r.bks
 else if r.kind=4 then be (u64 r.bk) 2++be (u64 r.till) 8
 else if r.kind=5 then be (u64 r.bk) 2
 else if r.kind=6 then be (u64 r.count) 4
 else []
def encRec (r:Rec) (v:Int):FrD×Int:=
 if verOk v=false then (zeroFr,10) else if mayRec r=false then (zeroFr,1) else (⟨r.kind.toNat,v.toNat,recBody r v⟩,0)
/-! ### What bytes say -/
abbrev RdS:=List UInt8×Int
def rdN (n:Nat) (s:RdS):Nat:=num (rdTake s.1 s.2 n).1
def rdS (n:Nat) (s:RdS):RdS:=(rdTake s.1 s.2 n).2
def tupAt (s:RdS):Tup:=⟨rdN 4 s,rdN 4 (rdS 4 s),rdN 1 (rdS 4 (rdS 4 s)),rdN 2 (rdS 1 (rdS 4 (rdS 4 s))),rdN 2 (rdS 2 (rdS 1 (rdS 4 (rdS 4 s))))⟩
def rdTup (s:RdS):Tup×Bool×RdS:=
 if s.1.length < 13 then (zeroT,false,rdS 13 s)
 else if MayT (tupAt s) then (tupAt s,true,rdS 2 (rdS 2 (rdS 1 (rdS 4 (rdS 4 s)))))
 else (zeroT,false,rdS 2 (rdS 2 (rdS 1 (rdS 4 (rdS 4 s)))))
def rdFl (v:Int) (s:RdS):Fl×Bool×RdS:=
 let t:=rdTup s
 let s1:=rdS 2 t.2.2
 let s2:=if 2≤v then rdS 4 s1 else s1
 let s3:=if 3≤v then rdS 8 s2 else s2
 (⟨t.1,rdN 2 t.2.2,if 2≤v then (rdN 4 s1:Int) else 0,if 3≤v then sig64 (rdN 8 s2) else 0⟩,t.2.1,s3)
def rdBk (v:Int) (s:RdS):Bk×RdS:=
 (⟨rdN 2 s,rdN 4 (rdS 2 s),if 2≤v then (rdN 1 (rdS 4 (rdS 2 s)):Int) else 1⟩,if 2≤v then rdS 1 (rdS 4 (rdS 2 s)) else rdS 4 (rdS 2 s))
def rdBks (v:Int):Nat→RdS→List Bk×RdS
 | 0,s=>([],s)
 | n+1,s=>((rdBks v n s).1++[(rdBk v (rdBks v n s).2).1],(rdBk v (rdBks v n s).2).2)
def rdRec (kind v:Int) (s:RdS):Rec×Bool×RdS:=
 if kind=1 then (⟨1,(rdFl v s).1,0,[],0,0,0⟩,(rdFl v s).2.1,(rdFl v s).2.2)
 else if kind=2 then (⟨2,⟨(rdTup s).1,0,0,0⟩,0,[],0,0,0⟩,(rdTup s).2.1,(rdTup s).2.2)
 else if kind=3 then
  let b:=rdBks v (min (rdN 1 (rdS 4 s)) 17) (rdS 1 (rdS 4 s))
  (⟨3,zeroF,rdN 4 s,b.1,0,0,0⟩,true,b.2)
 else if kind=4 then (⟨4,zeroF,0,[],rdN 2 s,sig64 (rdN 8 (rdS 2 s)),0⟩,true,rdS 8 (rdS 2 s))
 else if kind=5 then (⟨5,zeroF,0,[],rdN 2 s,0,0⟩,true,rdS 2 s)
 else if kind=6 then (⟨6,zeroF,0,[],0,0,rdN 4 s⟩,true,rdS 4 s)
 else (⟨kind,zeroF,0,[],0,0,0⟩,true,s)
def decRec (f:FrD):Rec×Int:=
 if verOk f.ver=false then (zeroRec,10)
 else
  let r:=rdRec f.kind f.ver (f.body,0)
  if r.2.1=true∧endE r.2.2.1 r.2.2.2=0∧mayRec r.1=true then (r.1,0) else (zeroRec,3)
/-! ### Its numbers fit their types -/
structure WfBk (b:Bk):Prop where
 i0:-9223372036854775808≤b.id
 i1:b.id < 9223372036854775808
 a0:0≤b.addr
 a1:b.addr < 4294967296
 w0:-9223372036854775808≤b.weight
 w1:b.weight < 9223372036854775808
structure WfR (r:Rec):Prop where
 t:WfT r.fl.t
 addr:∀ b∈r.bks,0≤b.addr∧b.addr < 4294967296
/-! ### Laws -/
theorem rd_app {n:Nat} (a b:List UInt8) (h:a.length=n):rdTake (a++b) 0 n=(a,b,0):=by
 unfold rdTake
 rw [if_neg (by simp),if_neg (by rw [List.length_append];omega),← h]
 simp
theorem rdN_be {n w:Nat} (h:n < 256 ^ w) (b:List UInt8):rdN w (be n w++b,0)=n:=by
 unfold rdN;rw [rd_app _ _ (be_length n w)];exact num_be h
theorem rdS_be (n w:Nat) (b:List UInt8):rdS w (be n w++b,0)=(b,0):=by
 unfold rdS;rw [rd_app _ _ (be_length n w)]
theorem u64_lt_of {n:Int} {k:Nat} (h0:0≤n) (h1:n < k) (hk:k≤18446744073709551616):u64 n < k:=(u64_small h0 h1 hk).1
theorem u64_cast {n:Int} (h0:0≤n) (h1:n < 18446744073709551616):((u64 n:Nat):Int)=n:=u64_nat h0 h1
theorem rdN_u64 {n:Int} {w:Nat} (h0:0≤n) (h1:n < (256 ^ w:Nat)) (hw:(256 ^ w:Nat)≤18446744073709551616) (b:List UInt8):((rdN w (be (u64 n) w++b,0):Nat):Int)=n:=by
 rw [rdN_be (u64_lt_of h0 h1 hw)];exact u64_cast h0 (by omega)
theorem rdS_u64 (n:Int) (w:Nat) (b:List UInt8):rdS w (be (u64 n) w++b,0)=(b,0):=rdS_be _ _ _
theorem rdTup_key {t:Tup} (wt:WfT t) (mt:MayT t) (b:List UInt8):rdTup (keyL t++b,0)=(t,true,(b,0)):=by
 have e:keyL t++b=be (u64 t.src) 4++(be (u64 t.dst) 4++(be (u64 t.proto) 1++(be (u64 t.sport) 2++(be (u64 t.dport) 2++b)))):=by simp [keyL,List.append_assoc]
 have hl:¬ (keyL t++b).length < 13:=by rw [List.length_append,keyL_length];omega
 have hp:0≤t.proto∧t.proto < 256:=by rcases mt.proto with h | h <;> rw [h] <;> decide
 have k1:=mt.sp0;have k2:=mt.sp1;have k3:=mt.dp0;have k4:=mt.dp1
 have ht:tupAt (keyL t++b,0)=t:=by
  unfold tupAt
  rw [e]
  simp only [rdS_u64]
  rw [rdN_u64 wt.s0 (by have:=wt.s1;simpa using this) (by decide),rdN_u64 wt.d0 (by have:=wt.d1;simpa using this) (by decide),rdN_u64 hp.1 (by simpa using hp.2) (by decide),rdN_u64 k1 (by simp;omega) (by decide),rdN_u64 k3 (by simp;omega) (by decide)]
 unfold rdTup
 rw [if_neg hl,ht,if_pos mt,e]
 simp only [rdS_u64]
theorem rdBk_B {v:Int} {b:Bk} (hb:mayBk b=true) (ha:0≤b.addr∧b.addr < 4294967296) (r:List UInt8):rdBk v (bkB v b++r,0)=(inBk v b,(r,0)):=by
 simp only [mayBk,Bool.and_eq_true,decide_eq_true_eq] at hb
 obtain⟨⟨b1,b2⟩,b3,b4⟩:=hb
 unfold rdBk bkB inBk
 by_cases hv:2≤v
 ·simp only [if_pos hv,List.append_assoc,rdS_u64]
  rw [rdN_u64 b1 (by simp;omega) (by decide),rdN_u64 ha.1 (by simpa using ha.2) (by decide),rdN_u64 (by omega) (by simp;omega) (by decide),if_neg (by omega)]
 ·simp only [if_neg hv,List.append_assoc,List.nil_append,rdS_u64]
  rw [rdN_u64 b1 (by simp;omega) (by decide),rdN_u64 ha.1 (by simpa using ha.2) (by decide),if_pos (by omega)]
theorem bksB_snoc (v:Int) (l:List Bk) (b:Bk):bksB v (l++[b])=bksB v l++bkB v b:=by simp [bksB]
theorem rdBks_take {v:Int} {l:List Bk} (hl:∀ b∈l,mayBk b=true∧0≤b.addr∧b.addr < 4294967296) (r:List UInt8) :
  ∀ k,k≤l.length→rdBks v k (bksB v l++r,0)=((l.take k).map (inBk v),(bksB v (l.drop k)++r,0))
 | 0,_=>by simp [rdBks]
 | k+1,h=>by
  obtain⟨x,hx⟩:∃ x,l[k]?=some x:=⟨l[k],List.getElem?_eq_getElem h⟩
  have hd:l.drop k=x::l.drop (k+1):=by
   have hx':l[k]=x:=by
    have:=List.getElem?_eq_getElem (l:=l) (i:=k) h
    rw [this] at hx;exact Option.some.inj hx
   rw [List.drop_eq_getElem_cons h,hx']
  have hm:=hl x (List.mem_of_getElem? hx)
  unfold rdBks
  rw [rdBks_take hl r k (by omega),hd]
  have e:bksB v (x::l.drop (k+1))++r=bkB v x++(bksB v (l.drop (k+1))++r):=by simp [bksB,List.append_assoc]
  simp only [e,rdBk_B hm.1 hm.2]
  rw [List.take_add_one,hx];simp
theorem rdBks_all {v:Int} {l:List Bk} (hl:∀ b∈l,mayBk b=true∧0≤b.addr∧b.addr < 4294967296):rdBks v l.length (bksB v l,0)=(l.map (inBk v),([],0)):=by
 have:=rdBks_take (v:=v) hl [] l.length (Nat.le_refl _)
 simpa [bksB] using this
theorem inBk_may {v:Int} {b:Bk} (h:mayBk b=true):mayBk (inBk v b)=true:=by
 unfold inBk;split
 ·simp only [mayBk,Bool.and_eq_true,decide_eq_true_eq] at h ⊢;omega
 ·exact h
theorem inFl_may {v:Int} {f:Fl} (h:MayF f):MayF (inFl v f):=by
 obtain⟨h1,h2,h3,h4,h5,h6,h7⟩:=h
 refine⟨h1,h2,h3,?_,?_,?_,?_⟩ <;> (simp only [inFl];split <;> omega)
theorem mayRec_iff {r:Rec}:mayRec r=true↔(r.kind=1∧MayF r.fl)∨(r.kind=2∧MayT r.fl.t)∨(r.kind=3∧(0≤r.gen∧r.gen≤1000000)∧r.bks.length≤16∧∀ b∈r.bks,mayBk b=true) ∨
  (r.kind=4∧(0≤r.bk∧r.bk≤65535)∧0≤r.till∧r.till≤1099511627776)∨(r.kind=5∧0≤r.bk∧r.bk≤65535)∨(r.kind=6∧0≤r.count∧r.count≤1000000):=by
 unfold mayRec
 split
 ·rename_i h;simp [h]
 split
 ·rename_i h;simp [h]
 split
 ·rename_i h;simp [h,List.all_eq_true]
 split
 ·rename_i h;simp [h]
 split
 ·rename_i h;simp [h]
 split
 ·rename_i h;simp [h]
 ·simp;omega
theorem inRec_kind {r:Rec} {v:Int} (hv:verOk v=true):(inRec r v).kind=r.kind:=by
 unfold inRec;rw [if_neg (by simp [hv])]
 unfold plainRec
 repeat' split
 all_goals simp_all
theorem plain_kind (r:Rec):(plainRec r).kind=r.kind:=by
 unfold plainRec
 repeat' split
 all_goals simp_all
theorem inRec_may {r:Rec} {v:Int} (hv:verOk v=true) (h:mayRec r=true):mayRec (inRec r v)=true:=by
 rw [mayRec_iff] at h ⊢
 have hk:=inRec_kind (r:=r) hv
 rw [hk]
 have e:inRec r v=_:=if_neg (by simp [hv])
 rcases h with ⟨h1,h2⟩|⟨h1,h2⟩|⟨h1,h2,h3,h4⟩|⟨h1,h2,h3⟩|⟨h1,h2⟩|⟨h1,h2⟩
 ·left;refine⟨h1,?_⟩;rw [e];simp only [if_pos h1,plainRec];exact inFl_may h2
 ·right;left;refine⟨h1,?_⟩;rw [e];simp [h1,plainRec];exact h2
 ·right;right;left;refine⟨h1,?_⟩;rw [e];simp [h1,plainRec];exact⟨h2,h3,fun b hb=>inBk_may (h4 b hb)⟩
 ·right;right;right;left;refine⟨h1,?_⟩;rw [e];simp [h1,plainRec];exact⟨h2,h3⟩
 ·right;right;right;right;left;refine⟨h1,?_⟩;rw [e];simp [h1,plainRec];exact h2
 ·right;right;right;right;right;refine⟨h1,?_⟩;rw [e];simp [h1,plainRec];exact h2
theorem endE_nil:endE [] 0=0:=rfl
theorem dec_enc {r:Rec} {v:Int} (wr:WfR r) (hv:verOk v=true) (h:mayRec r=true):(encRec r v).2=0∧decRec (encRec r v).1=(inRec r v,0):=by
 have hv':1≤v∧v≤3:=by simpa [verOk] using hv
 have e0:encRec r v=(⟨r.kind.toNat,v.toNat,recBody r v⟩,0):=by unfold encRec;rw [if_neg (by simp [hv]),if_neg (by simp [h])]
 have evn:((v.toNat:Nat):Int)=v:=Int.toNat_of_nonneg (by omega)
 have him:=inRec_may hv h
 have ei:inRec r v=⟨(plainRec r).kind,if r.kind=1 then inFl v (plainRec r).fl else (plainRec r).fl,(plainRec r).gen,(plainRec r).bks.map (inBk v),(plainRec r).bk,(plainRec r).till,(plainRec r).count⟩:=if_neg (by simp [hv])
 refine⟨by rw [e0],?_⟩
 suffices hs:∀ k:Int,r.kind=k→rdRec k v (recBody r v,0)=(inRec r v,true,([],0)) by
  have hk:((r.kind.toNat:Nat):Int)=r.kind:=by
   rw [mayRec_iff] at h;apply Int.toNat_of_nonneg;omega
  rw [e0]
  unfold decRec
  simp only [evn,hk]
  rw [if_neg (by simp [hv])]
  rw [hs _ rfl]
  rw [if_pos ⟨rfl,endE_nil,him⟩]
 intro k hk
 have hm:=h
 rw [mayRec_iff] at hm
 rcases hm with ⟨h1,h2⟩|⟨h1,h2⟩|⟨h1,h2,h3,h4⟩|⟨h1,h2,h3⟩|⟨h1,h2⟩|⟨h1,h2⟩
 ·obtain rfl:k=1:=by omega
  have eb:recBody r v=keyL r.fl.t++(be (u64 r.fl.bk) 2++((if 2≤v then be (u64 r.fl.gen) 4 else [])++(if 3≤v then be (u64 r.fl.seen) 8 else []))):=by
   unfold recBody;rw [if_pos h1];simp [List.append_assoc]
  have b0:=h2.b0;have b1:=h2.b1;have g0:=h2.g0;have g1:=h2.g1;have t0:=h2.t0;have t1:=h2.t1
  have hs8:∀ x:Int,0≤x→x≤1099511627776→sig64 (rdN 8 (be (u64 x) 8,0))=x:=fun x x0 x1=>by
   have:=rdN_u64 (n:=x) (w:=8) x0 (by rw [show (256 ^ 8:Nat)=18446744073709551616 from by decide];omega) (by decide) []
   rw [List.append_nil] at this
   unfold sig64;rw [this];unfold wrap64;omega
  have hr8:∀ x:Int,rdS 8 (be (u64 x) 8,0)=([],0):=fun x=>by
   have:=rdS_u64 x 8 []
   rwa [List.append_nil] at this
  have hr4:∀ x:Int,rdS 4 (be (u64 x) 4,0)=([],0):=fun x=>by
   have:=rdS_u64 x 4 []
   rwa [List.append_nil] at this
  have hn4:∀ x:Int,0≤x→x≤1000000→((rdN 4 (be (u64 x) 4,0):Nat):Int)=x:=fun x x0 x1=>by
   have:=rdN_u64 (n:=x) (w:=4) x0 (by simp;omega) (by decide) []
   rwa [List.append_nil] at this
  have hr:rdFl v (recBody r v,0)=(inFl v r.fl,true,([],0)):=by
   unfold rdFl inFl
   rw [eb,rdTup_key wr.t h2.t]
   simp only [rdS_u64]
   rw [rdN_u64 b0 (by simp;omega) (by decide)]
   by_cases c2:2≤v
   ·by_cases c3:3≤v
    ·simp only [if_pos c2,if_pos c3,rdS_u64,hr8,hs8 _ t0 t1]
     rw [rdN_u64 g0 (by simp;omega) (by decide),if_neg (by omega),if_neg (by omega)]
    ·simp only [if_pos c2,if_neg c3,List.append_nil,hr4,hn4 _ g0 g1]
     rw [if_neg (by omega),if_pos (by omega)]
   ·have c3:¬ 3≤v:=by omega
    simp only [if_neg c2,if_neg c3,List.append_nil]
    rw [if_pos (by omega),if_pos (by omega)]
  unfold rdRec
  rw [if_pos rfl,hr,ei]
  simp [plainRec,h1]
 ·obtain rfl:k=2:=by omega
  have eb:recBody r v=keyL r.fl.t:=by unfold recBody;rw [if_neg (by omega),if_pos h1]
  have hr:rdTup (recBody r v,0)=(r.fl.t,true,([],0)):=by
   rw [eb];have:=rdTup_key wr.t h2 [];rwa [List.append_nil] at this
  unfold rdRec
  rw [if_neg (by decide),if_pos rfl,hr,ei]
  simp [plainRec,h1]
 ·obtain rfl:k=3:=by omega
  have eb:recBody r v=be (u64 r.gen) 4++(be (u64 r.bks.length) 1++bksB v r.bks):=by
   unfold recBody;rw [if_neg (by omega),if_neg (by omega),if_pos h1];simp [List.append_assoc]
  have hn:rdN 1 (be (u64 r.bks.length) 1++bksB v r.bks,0)=r.bks.length:=by
   have:=rdN_u64 (n:=r.bks.length) (w:=1) (by omega) (by simp;omega) (by decide) (bksB v r.bks)
   omega
  unfold rdRec
  rw [if_neg (by decide),if_neg (by decide),if_pos rfl,eb]
  simp only [rdS_u64,hn]
  rw [rdN_u64 h2.1 (by simp;omega) (by decide),Nat.min_eq_left (by omega),rdBks_all (fun b hb=>⟨h4 b hb,wr.addr b hb⟩),ei]
  simp [plainRec,h1]
 ·obtain rfl:k=4:=by omega
  have eb:recBody r v=be (u64 r.bk) 2++(be (u64 r.till) 8++[]):=by
   unfold recBody;rw [if_neg (by omega),if_neg (by omega),if_neg (by omega),if_pos h1];simp
  have hs8:sig64 (rdN 8 (be (u64 r.till) 8++[],0))=r.till:=by
   have:=rdN_u64 (n:=r.till) (w:=8) h3.1 (by rw [show (256 ^ 8:Nat)=18446744073709551616 from by decide];omega) (by decide) []
   unfold sig64;rw [this];unfold wrap64;omega
  unfold rdRec
  rw [if_neg (by decide),if_neg (by decide),if_neg (by decide),if_pos rfl,eb]
  simp only [rdS_u64,hs8]
  rw [rdN_u64 h2.1 (by simp;omega) (by decide),ei]
  simp [plainRec,h1]
 ·obtain rfl:k=5:=by omega
  have eb:recBody r v=be (u64 r.bk) 2++[]:=by
   unfold recBody;rw [if_neg (by omega),if_neg (by omega),if_neg (by omega),if_neg (by omega),if_pos h1];simp
  unfold rdRec
  rw [if_neg (by decide),if_neg (by decide),if_neg (by decide),if_neg (by decide),if_pos rfl,eb]
  simp only [rdS_u64]
  rw [rdN_u64 h2.1 (by simp;omega) (by decide),ei]
  simp [plainRec,h1]
 ·obtain rfl:k=6:=by omega
  have eb:recBody r v=be (u64 r.count) 4++[]:=by
   unfold recBody;rw [if_neg (by omega),if_neg (by omega),if_neg (by omega),if_neg (by omega),if_neg (by omega),if_pos h1];simp
  unfold rdRec
  rw [if_neg (by decide),if_neg (by decide),if_neg (by decide),if_neg (by decide),if_neg (by decide),if_pos rfl,eb]
  simp only [rdS_u64]
  rw [rdN_u64 h2.1 (by simp;omega) (by decide),ei]
  simp [plainRec,h1]
theorem bksB_length (v:Int):∀ l:List Bk,(bksB v l).length≤7 * l.length
 | []=>Nat.le_refl _
 | b::l=>by
  have:=bksB_length v l
  have e:bksB v (b::l)=bkB v b++bksB v l:=by simp [bksB]
  rw [e,List.length_append,List.length_cons]
  have hb:(bkB v b).length≤7:=by
   unfold bkB
   rw [List.length_append,List.length_append,be_length,be_length]
   split
   ·rw [be_length];omega
   ·simp
  omega
theorem recBody_length {r:Rec} (v:Int) (h:mayRec r=true):(recBody r v).length≤200:=by
 rw [mayRec_iff] at h
 unfold recBody
 split
 ·simp only [List.length_append,keyL_length,be_length];split <;> split <;> simp [be_length]
 split
 ·rw [keyL_length];omega
 split
 ·have:=bksB_length v r.bks
  simp only [List.length_append,be_length]
  have:r.bks.length≤16:=by omega
  omega
 split
 ·simp [be_length]
 split
 ·simp [be_length]
 split
 ·simp [be_length]
 ·simp
theorem enc_ok {r:Rec} {v:Int} (h:(encRec r v).2=0):FrOk (encRec r v).1∧(encRec r v).1.ver=v.toNat∧verOk v=true∧mayRec r=true:=by
 unfold encRec at h ⊢
 cases hv:verOk v with
 | false=>rw [hv] at h;simp at h
 | true=>
  cases hm:mayRec r with
  | false=>rw [hv,hm] at h;simp at h
  | true=>
   simp only [Bool.true_eq_false,if_false,and_true]
   have hv':1≤v∧v≤3:=by simpa [verOk] using hv
   have hl:=recBody_length v hm
   rw [mayRec_iff] at hm
   exact⟨by show r.kind.toNat < 256;omega,by show v.toNat < 256;omega,by show (recBody r v).length≤4096;omega⟩
theorem exists_list {α:Type} {p:Nat→α→Prop}:∀ (n:Nat),(∀ i,i < n→∃ x,p i x)→∃ l:List α,l.length=n∧∀ i (hi:i < l.length),p i l[i]
 | 0,_=>⟨[],rfl,fun i hi=>by simp at hi⟩
 | n+1,h=>by
  obtain⟨l,hl,hp⟩:=exists_list n (fun i hi=>h i (by omega))
  obtain⟨x,hx⟩:=h n (by omega)
  refine⟨l++[x],by simp [hl],fun i hi=>?_⟩
  by_cases hin:i < l.length
  ·rw [List.getElem_append_left hin];exact hp i hin
  ·have:i=l.length:=by simp at hi;omega
   subst this
   simpa [hl] using hx
structure ArgStrs (w:World) (a:Option Addr) (len cap:Nat) (ss:List ByteArray):Prop where
 length:ss.length=len
 room:len≤cap
 most:cap≤maxLen
 small:∀ s∈ss,s.size≤maxLen
 at':len=0∨∃ b o,a=some ⟨b,o,none⟩∧b < w.heap.size∧∀ i (hi:i < ss.length),w.cell? ⟨b,o+i,none⟩=some (.string ss[i])
structure ArgInts (k:IntKind) (w:World) (a:Option Addr) (len cap:Nat) (zs:List Int):Prop where
 length:zs.length=len
 room:len≤cap
 most:cap≤maxLen
 small:∀ n∈zs,(Lit.int k n).wf=true
 at':len=0∨∃ b o,a=some ⟨b,o,none⟩∧b < w.heap.size∧∀ i (hi:i < zs.length),w.cell? ⟨b,o+i,none⟩=some (.int k zs[i])
section
variable {H:Type} {enc:TypeId×Value→H} {P:Program} {w:World} {base:Nat} {spare:Nat→Bool} {held:Bool}
theorem addr_none {a:Addr} {v:Value} (h:w.cell? (a.add 0)=some v):a=⟨a.block,a.off,none⟩:=by
 have:a.add 0=a:=by simp [Addr.add]
 rw [this] at h
 have:=World.cell?_spot h
 cases a;simp at this;simp [this]
theorem add_plain (b o i:Nat):(⟨b,o,none⟩:Addr).add i=⟨b,o+i,none⟩:=by
 unfold Addr.add;split
 ·simp
 ·rfl
end
structure AB (w:World) (v:Value) (bs:List UInt8):Prop where
 ex:∃ a c,v=.slice a bs.length c∧Src w a bs.length 1 (u8s bs)∧bs.length≤c∧c≤maxLen
structure ArgCellsOf {α:Type} (Rd:World→Value→α→Prop) (w:World) (a:Option Addr) (len cap:Nat) (L:List α):Prop where
 length:L.length=len
 room:len≤cap
 most:cap≤maxLen
 at':∀ i x,L[i]?=some x→∃ g o v,a=some ⟨g,o,none⟩∧w.cell? ⟨g,o+i,none⟩=some v∧Rd w v x
abbrev ArgBss:=ArgCellsOf AB
section
variable {H:Type} {enc:TypeId×Value→H} {P:Program} {w:World} {base:Nat} {spare:Nat→Bool} {held:Bool}
end
section
variable {w0 w:World} {R:List Asrt}
theorem cell_old (h:Own w0 w R) {a:Addr} {v:Value} (hc:w0.cell? a=some v):w.cell? a=some v:=by
 have hb:=World.block_lt_of_cell? _ _ hc
 rw [← hc]
 exact World.cell?_of_block (h.mod.block _ hb (by simp))
theorem Src.old (h:Own w0 w R) {A:Option Addr} {n k:Nat} {xs:List Value} (hs:Src w0 A n k xs):Src w A n k xs:=
 ⟨hs.len,fun h0=>by
  obtain⟨ad,e,hc⟩:=hs.at' h0
  exact⟨ad,e,fun j u hu=>cell_old h (hc j u hu)⟩⟩
theorem src_none {w:World} {A:Option Addr} {bs:List UInt8} (h:Src w A bs.length 1 (u8s bs)):A=none→bs.length=0:=fun e=>by
 subst e
 rcases Nat.eq_zero_or_pos bs.length with h0 | h0
 ·exact h0
 ·obtain⟨ad,e,_⟩:=h.at' h0
  cases e
end
theorem meas_lt {n j:Nat} (h:(j:Int) < (n:Int)):n - (intOf (.int .i64 ((j:Int)+1))).toNat < n - (intOf (.int .i64 (j:Int))).toNat:=by
 simp only [intOf];omega
structure FrI where
 kind:Int
 ver:Int
 body:List UInt8
def FrIAt (w:World) (g o:Nat) (f:FrI):Prop:=w.cell? ⟨g,o,none⟩=some (.int .i64 f.kind)∧w.cell? ⟨g,o+1,none⟩=some (.int .i64 f.ver)∧∃ v,w.cell? ⟨g,o+2,none⟩=some v∧AB w v f.body
structure ArgStr {α:Type} (k:Nat) (Rd:World→Nat→Nat→α→Prop) (w:World) (v:Value) (L:List α):Prop where
 ex:∃ a c,v=.slice a L.length c∧L.length≤c∧c≤maxLen∧∀ i x,L[i]?=some x→∃ g o,a=some ⟨g,o,none⟩∧Rd w g (o+i * k) x
abbrev ArgFrs:=ArgStr 3 FrIAt
structure CallI where
 act:Int
 n:Int
 b:List UInt8
 rows:List FrI
def CallIAt (w:World) (g o:Nat) (c:CallI):Prop:=w.cell? ⟨g,o,none⟩=some (.int .i64 c.act)∧w.cell? ⟨g,o+1,none⟩=some (.int .i64 c.n)∧(∃ v,w.cell? ⟨g,o+2,none⟩=some v∧AB w v c.b)∧∃ v,w.cell? ⟨g,o+3,none⟩=some v∧ArgFrs w v c.rows
abbrev ArgCalls6:=ArgStr 4 CallIAt
section
variable {H:Type} {enc:TypeId×Value→H} {w:World} {base:Nat} {spare:Nat→Bool} {held:Bool}
end
section
variable {w0 w:World} {R:List Asrt}
end
def encK:List IntKind→List Int→List Value
 | k::ks,n::ns=>.int k n::encK ks ns
 | _,_=>[]
theorem encK_append:∀ {ks:List IntKind} {ns:List Int} (ks':List IntKind) (ns':List Int),ns.length=ks.length→encK ks ns++encK ks' ns'=encK (ks++ks') (ns++ns')
 | [],[],_,_,_=>rfl
 | k::ks,n::ns,_,_,h=>by simp [encK,encK_append (ks:=ks) (ns:=ns) _ _ (by simpa using h)]
def wfK (ks:List IntKind) (ns:List Int):Prop:=∀ (j:Nat) (k:IntKind) (n:Int),ks[j]?=some k→ns[j]?=some n→(Lit.int k n).wf=true
theorem wfK_append {ks ks':List IntKind} {ns ns':List Int} (hl:ns.length=ks.length) (h:wfK ks ns) (h':wfK ks' ns'):wfK (ks++ks') (ns++ns'):=by
 intro j k n h1 h2
 by_cases hj:j < ks.length
 ·rw [List.getElem?_append_left hj] at h1
  rw [List.getElem?_append_left (by omega)] at h2
  exact h j k n h1 h2
 ·rw [List.getElem?_append_right (by omega)] at h1
  rw [List.getElem?_append_right (by omega)] at h2
  rw [hl] at h2
  exact h' _ k n h1 h2
section
variable {H:Type} (enc:TypeId×Value→H) (P:Program)
def FlatT (T:TypeId) (ks:List IntKind):Prop:=∀ (w:World) (base:Nat) (spare:Nat→Bool) (held:Bool) (n:Nat) (cs:List Value) (x:DataW H×List MemPlace),
 DataW.trod enc P w base spare held n T cs=some x→∃ ns:List Int,ns.length=ks.length∧cs=encK ks ns∧wfK ks ns
variable {enc P}
theorem flat_int {T:TypeId} {k:IntKind} (h:P.underlying T=some (.int k)):FlatT enc P T [k]:=by
 intro w base spare held n cs x hx
 obtain⟨m,e,_,hw⟩:=DataW.trod_int h hx
 refine⟨[m],rfl,by rw [e];rfl,fun j k' n' h1 h2=>?_⟩
 cases j with
 | zero=>simp at h1 h2;subst h1;subst h2;exact hw
 | succ j=>simp at h1
def offs:Nat→List (Field×List IntKind)→Prop
 | _,[]=>True
 | o,(f,ks)::r=>f.offset=o∧P.cellsOf f.type=ks.length∧offs (o+ks.length) r
theorem flat_fields:∀ (fk:List (Field×List IntKind)) (o:Nat),offs (P:=P) o fk→(∀ p∈fk,FlatT enc P p.1.type p.2)→∀ (w:World) (base:Nat) (spare:Nat→Bool) (held:Bool) (n:Nat) (cs:List Value) (xs:List (DataW H×List MemPlace)),
  (∀ (j:Nat) (f:Field),(fk.map (·.1))[j]?=some f→DataW.trod enc P w base spare held n f.type ((cs.drop f.offset).take (P.cellsOf f.type))=xs[j]?)→xs.length=fk.length→cs.length=o+((fk.map (·.2)).flatten).length →
  ∃ ns:List Int,ns.length=((fk.map (·.2)).flatten).length∧cs.drop o=encK ((fk.map (·.2)).flatten) ns∧wfK ((fk.map (·.2)).flatten) ns
 | [],o,_,_,_,_,_,_,_,cs,_,_,_,hl=>⟨[],rfl,by
   have:cs.drop o=[]:=List.drop_eq_nil_of_le (by simpa using Nat.le_of_eq hl)
   simp [this,encK],fun j k n h1=>by simp at h1⟩
 | (f,ks)::r,o,ho,hf,w,base,spare,held,n,cs,xs,hx,hxl,hl=>by
  obtain⟨o1,o2,o3⟩:=ho
  cases xs with
  | nil=>simp at hxl
  | cons x xs=>
   have h0:=hx 0 f (by simp)
   rw [o1,o2] at h0
   simp only [List.getElem?_cons_zero] at h0
   obtain⟨ns,n1,n2,n3⟩:=hf (f,ks) (by simp) w base spare held n _ x h0
   obtain⟨ms,m1,m2,m3⟩:=flat_fields r (o+ks.length) o3 (fun p hp=>hf p (List.mem_cons_of_mem _ hp)) w base spare held n cs xs (fun j g hg=>hx (j+1) g (by simpa using hg)) (by simpa using hxl)
    (by rw [hl];simp only [List.map_cons,List.flatten_cons,List.length_append];omega)
   refine⟨ns++ms,by simp only [List.map_cons,List.flatten_cons,List.length_append];rw [n1,m1],?_,by simpa using wfK_append n1 n3 m3⟩
   have:cs.drop o=(cs.drop o).take ks.length++(cs.drop o).drop ks.length:=(List.take_append_drop _ _).symm
   rw [this,List.drop_drop,m2,n2,encK_append _ _ n1]
   simp
theorem flat_struct {T:TypeId} {fs:Array Field} (h:P.underlying T=some (.struct fs)) (fk:List (Field×List IntKind)) (hfk:fk.map (·.1)=fs.toList) (ho:offs (P:=P) 0 fk) (hf:∀ p∈fk,FlatT enc P p.1.type p.2)
  (hc:P.cellsOf T=((fk.map (·.2)).flatten).length):FlatT enc P T ((fk.map (·.2)).flatten):=by
 intro w base spare held n cs x hx
 obtain⟨xs,n',_,_,hl,hlen,hfl⟩:=DataW.trod_struct h hx
 have:=flat_fields fk 0 ho hf w base spare held n' cs xs (fun j f hj=>hfl j f (by rw [hfk] at hj;simpa using hj)) (by rw [hlen,← Array.length_toList,← hfk,List.length_map]) (by rw [hl,hc];omega)
 simpa using this
structure ArgRows (ks:List IntKind) (w:World) (a:Option Addr) (len cap:Nat) (ps:List (List Int)):Prop where
 length:ps.length=len
 room:len≤cap
 most:cap≤maxLen
 shape:∀ x∈ps,x.length=ks.length∧wfK ks x
 at':len=0∨∃ b o,a=some ⟨b,o,none⟩∧b < w.heap.size∧∀ i x,ps[i]?=some x→∀ j v,(encK ks x)[j]?=some v→w.cell? ⟨b,o+(i * ks.length+j),none⟩=some v
end
theorem flatTupR {H:Type} {enc:TypeId×Value→H}:FlatT enc Tryz.prog 41 [.u32,.u32,.i64,.i64,.i64]:=by
 refine flat_struct Tryz.underlying41 [(_,[.u32]),(_,[.u32]),(_,[.i64]),(_,[.i64]),(_,[.i64])] rfl ⟨rfl,by kernel_rfl,rfl,by kernel_rfl,rfl,by kernel_rfl,rfl,by kernel_rfl,rfl,by kernel_rfl,trivial⟩ ?_ (by kernel_rfl)
 intro p hp
 simp only [List.mem_cons,List.not_mem_nil,or_false] at hp
 rcases hp with rfl | rfl | rfl | rfl | rfl
 all_goals exact flat_int (by kernel_rfl)
theorem flatFlR {H:Type} {enc:TypeId×Value→H}:FlatT enc Tryz.prog 43 [.u32,.u32,.i64,.i64,.i64,.i64,.i64,.i64]:=by
 refine flat_struct Tryz.underlying43 [(_,[.u32,.u32,.i64,.i64,.i64]),(_,[.i64]),(_,[.i64]),(_,[.i64])] rfl ⟨rfl,by kernel_rfl,rfl,by kernel_rfl,rfl,by kernel_rfl,rfl,by kernel_rfl,trivial⟩ ?_ (by kernel_rfl)
 intro p hp
 simp only [List.mem_cons,List.not_mem_nil,or_false] at hp
 rcases hp with rfl | rfl | rfl | rfl
 ·exact flatTupR
 all_goals exact flat_int (by kernel_rfl)
theorem flatBkR {H:Type} {enc:TypeId×Value→H}:FlatT enc Tryz.prog 108 [.i64,.u32,.i64]:=by
 refine flat_struct Tryz.underlying108 [(_,[.i64]),(_,[.u32]),(_,[.i64])] rfl ⟨rfl,by kernel_rfl,rfl,by kernel_rfl,rfl,by kernel_rfl,trivial⟩ ?_ (by kernel_rfl)
 intro p hp
 simp only [List.mem_cons,List.not_mem_nil,or_false] at hp
 rcases hp with rfl | rfl | rfl
 all_goals exact flat_int (by kernel_rfl)
theorem litR_i64 {n:Int} (h:(Lit.int .i64 n).wf=true):-9223372036854775808≤n∧n < 9223372036854775808:=by
 simp [Lit.wf,IntKind.min,IntKind.max,IntKind.signed,IntKind.bits] at h
 omega
theorem litR_u32 {n:Int} (h:(Lit.int .u32 n).wf=true):0≤n∧n < 4294967296:=by
 simp [Lit.wf,IntKind.min,IntKind.max,IntKind.signed,IntKind.bits] at h
 omega
abbrev encB (b:Bk):List Value:=[.int .i64 b.id,.int .u32 b.addr,.int .i64 b.weight]
def bkV (l:List Bk):List Value:=(l.map encB).flatten
theorem bkV_length (l:List Bk):(bkV l).length=l.length * 3:=by
 induction l with
 | nil=>rfl
 | cons b l ih=>
  have e:bkV (b::l)=encB b++bkV l:=by simp [bkV]
  have e1:(encB b).length=3:=rfl
  have e2:(b::l).length=l.length+1:=rfl
  rw [e,List.length_append,ih,e1,e2]
  omega
theorem bkV_at:∀ {l:List Bk} {i:Nat} {b:Bk},l[i]?=some b→(bkV l)[i * 3]?=some (.int .i64 b.id)∧(bkV l)[i * 3+1]?=some (.int .u32 b.addr)∧(bkV l)[i * 3+2]?=some (.int .i64 b.weight)
 | [],_,_,h=>by simp at h
 | x::l,0,b,h=>by
  simp at h;subst h
  simp [bkV,encB]
 | x::l,i+1,b,h=>by
  have e:bkV (x::l)=encB x++bkV l:=by simp [bkV]
  obtain⟨h0,h1,h2⟩:=bkV_at (l:=l) (i:=i) (by simpa using h)
  have hl:(encB x).length=3:=rfl
  rw [e]
  refine⟨?_,?_,?_⟩
  ·rw [List.getElem?_append_right (by rw [hl];omega),hl,show (i+1) * 3 - 3=i * 3 by omega];exact h0
  ·rw [List.getElem?_append_right (by rw [hl];omega),hl,show (i+1) * 3+1 - 3=i * 3+1 by omega];exact h1
  ·rw [List.getElem?_append_right (by rw [hl];omega),hl,show (i+1) * 3+2 - 3=i * 3+2 by omega];exact h2
theorem bkV_one (l:List Bk):∀ u∈bkV l,u.oneCell'=true:=by
 intro u hu
 simp only [bkV,List.mem_flatten,List.mem_map] at hu
 obtain⟨x,⟨b,_,rfl⟩,hx⟩:=hu
 simp at hx
 rcases hx with rfl | rfl | rfl <;> rfl
theorem bkV_get {l:List Bk} {t:Nat} {u:Value} (h:(bkV l)[t]?=some u):∃ b,l[t / 3]?=some b∧(encB b)[t % 3]?=some u:=by
 have hlt:t < l.length * 3:=by rw [← bkV_length];exact (List.getElem?_eq_some_iff.1 h).1
 obtain⟨b,hb⟩:∃ b,l[t / 3]?=some b:=⟨l[t / 3]'(by omega),List.getElem?_eq_getElem _⟩
 refine⟨b,hb,?_⟩
 obtain⟨h0,h1,h2⟩:=bkV_at hb
 have hd:=Nat.div_add_mod t 3
 have hm:=Nat.mod_lt t (show 0 < 3 by decide)
 rcases (by omega:t % 3=0∨t % 3=1∨t % 3=2) with e | e | e
 ·rw [show t / 3 * 3=t by omega,h] at h0;rw [e];exact h0.symm
 ·rw [show t / 3 * 3+1=t by omega,h] at h1;rw [e];exact h1.symm
 ·rw [show t / 3 * 3+2=t by omega,h] at h2;rw [e];exact h2.symm
structure ArgBks (w:World) (v:Value) (l:List Bk):Prop where
 ex:∃ a c,v=.slice a l.length c∧Src w a l.length 3 (bkV l)∧l.length≤c∧c≤maxLen∧(a=none→c=0)
 wf:∀ b∈l,WfBk b
abbrev encRL (r:Rec) (v:Value):List Value:=[.int .i64 r.kind,.int .u32 r.fl.t.src,.int .u32 r.fl.t.dst,.int .i64 r.fl.t.proto,.int .i64 r.fl.t.sport,.int .i64 r.fl.t.dport,.int .i64 r.fl.bk,.int .i64 r.fl.gen,.int .i64 r.fl.seen,.int .i64 r.gen,v,.int .i64 r.bk,.int .i64 r.till,.int .i64 r.count]
structure WfRI (r:Rec):Prop where
 rr:WfR r
 bb:∀ b∈r.bks,WfBk b
def RecIs (w:World) (cs:List Value) (r:Rec):Prop:=∃ v,cs=encRL r v∧ArgBks w v r.bks∧WfRI r
structure ArgSl {α:Type} (k:Nat) (Q:World→List Value→α→Prop) (w:World) (v:Value) (L:List α):Prop where
 ex:∃ a c,v=.slice a L.length c∧L.length≤c∧c≤maxLen∧(a=none→c=0)∧∀ i x,L[i]?=some x→∃ g o cs,a=some ⟨g,o,none⟩∧Q w cs x∧∀ j u,cs[j]?=some u→w.cell? ⟨g,o+i * k+j,none⟩=some u
abbrev ArgRecs:=ArgSl 14 RecIs
structure CallR where
 act:Int
 n:Int
 r:Rec
 rows:List Rec
 picks:List UInt8
def CallRIs (w:World) (cs:List Value) (c:CallR):Prop:=∃ v vr vp,cs=.int .i64 c.act::.int .i64 c.n::(encRL c.r v++[vr,vp])∧ArgBks w v c.r.bks∧WfRI c.r∧ArgRecs w vr c.rows∧AB w vp c.picks
abbrev ArgCalls15:=ArgSl 18 CallRIs
section
variable {H:Type} {enc:TypeId×Value→H} {P:Program} {w:World} {base:Nat} {spare:Nat→Bool} {held:Bool}
theorem openSl {α:Type} {Q:World→List Value→α→Prop} {T E:TypeId} {k:Nat} (ht:P.underlying T=some (.slice E)) (hC:P.cellsOf E=k) (hpos:0 < k)
  (one:∀ n cs y,DataW.trod enc P w base spare held n E cs=some y→cs.length=k→∃ x,Q w cs x) {fuel:Nat} {cs:List Value} {y:DataW H×List MemPlace}
  (hf:DataW.trod enc P w base spare held fuel T cs=some y):∃ v L,cs=[v]∧ArgSl k Q w v L:=by
 rcases open_slice ht hf with ⟨hcs,_⟩|⟨x,l,c,m,n,D,Pl,hcs,_,hl,hm,hmm,_,hi⟩
 ·exact⟨_,[],hcs,none,0,rfl,Nat.le_refl _,Nat.zero_le _,fun _=>rfl,by simp⟩
 ·have hle:l≤m:=by rw [hmm];split <;> omega
  have one':∀ i,i < l→∃ z:α,∃ cs',Q w cs' z∧cs'.length=k∧∀ j v,cs'[j]?=some v→w.cell? (x.add (i * k+j))=some v:=by
   intro i hil
   obtain⟨cs',hc,ht'⟩:=hi i (by omega)
   obtain⟨_,hcl,hat⟩:=World.cells?_some hc
   have hcl':cs'.length=k:=by rw [← hC];exact hcl
   obtain⟨z,hz⟩:=one _ _ _ ht' hcl'
   refine⟨z,cs',hz,hcl',fun j v hv=>?_⟩
   have hj:j < P.cellsOf E:=by
    have:=(List.getElem?_eq_some_iff.1 hv).1
    omega
   rw [← Go.Deep.add_add,← hC,hat j hj];exact hv
  obtain⟨L,hl1,hp⟩:=exists_list l one'
  refine⟨_,L,hcs,some x,c,by rw [hl1],by omega,hm,(fun e=>by cases e),fun i z hz=>?_⟩
  obtain⟨hi2,rfl⟩:=List.getElem?_eq_some_iff.1 hz
  have hlen0:0 < L.length:=by omega
  obtain⟨cs0,q1,q2,q3⟩:=hp 0 hlen0
  have c0:=q3 0 _ (List.getElem?_eq_getElem (by omega))
  have e:=addr_none (a:=x) (by simpa using c0)
  obtain⟨cs',q4,_,q5⟩:=hp i hi2
  refine⟨x.block,x.off,cs',by rw [← e],q4,fun j u hu=>?_⟩
  have:=q5 j u hu
  rw [e,add_plain] at this
  rw [Nat.add_assoc];exact this
theorem openBks {fuel:Nat} {cs:List Value} {y:DataW H×List MemPlace} (h:DataW.trod enc Tryz.prog w base spare held fuel 32 cs=some y):∃ v l,cs=[v]∧ArgBks w v l:=by
 obtain⟨v,L,e,hv⟩:=openSl (k:=3) (Q:=fun _ cs (b:Bk)=>cs=encB b∧WfBk b) Tryz.underlying32 (by kernel_rfl) (by decide) (fun n cs y hy hl=>by
  obtain⟨ns,n1,n2,n3⟩:=flatBkR w base spare held n cs y hy
  match ns,n1,n2,n3 with
  | [a,b,c],_,e,hw=>
   obtain⟨a0,a1⟩:=litR_i64 (hw 0 _ _ rfl rfl)
   obtain⟨b0,b1⟩:=litR_u32 (hw 1 _ _ rfl rfl)
   obtain⟨c0,c1⟩:=litR_i64 (hw 2 _ _ rfl rfl)
   exact⟨⟨a,b,c⟩,by rw [e];rfl,⟨a0,a1,b0,b1,c0,c1⟩⟩) h
 obtain⟨a,c,e1,h1,h2,hn,h3⟩:=hv.ex
 refine⟨v,L,e,⟨⟨a,c,e1,⟨bkV_length L,fun h0=>?_⟩,h1,h2,hn⟩,fun b hb=>?_⟩⟩
 ·obtain⟨g,o,cs0,e0,_,_⟩:=h3 0 _ (List.getElem?_eq_getElem h0)
  refine⟨⟨g,o,none⟩,e0,fun j u hu=>?_⟩
  obtain⟨b,hb,hbu⟩:=bkV_get hu
  obtain⟨g',o',cs',e',⟨ec,_⟩,hc⟩:=h3 _ _ hb
  rw [e0] at e';cases e'
  subst ec
  have:=hc _ _ hbu
  rw [add_at,show o+j=o+j / 3 * 3+j % 3 by omega]
  exact this
 ·obtain⟨i,hi,rfl⟩:=List.mem_iff_getElem.1 hb
  obtain⟨_,_,_,_,⟨_,hw⟩,_⟩:=h3 i _ (List.getElem?_eq_getElem hi)
  exact hw
theorem fld {fs:Array Field} {n':Nat} {cs:List Value} {xs:List (DataW H×List MemPlace)} (hfl:∀ (i:Nat) (f:Field),fs[i]?=some f→DataW.trod enc P w base spare held n' f.type ((cs.drop f.offset).take (P.cellsOf f.type))=xs[i]?) {j o k T:Nat} {f:Field} (hj:fs[j]?=some f) (ht:f.type=T) (ho:f.offset=o) (hk:P.cellsOf T=k) (hx:j < xs.length) :
  ∃ z,DataW.trod enc P w base spare held n' T ((cs.drop o).take k)=some z:=by
 subst ht ho hk
 exact⟨xs[j],by rw [hfl j f hj];exact List.getElem?_eq_getElem hx⟩
end
section
variable {w0 w:World} {R:List Asrt}
end
end Go.Proofs.YtaopfagclnocdaaGreat
