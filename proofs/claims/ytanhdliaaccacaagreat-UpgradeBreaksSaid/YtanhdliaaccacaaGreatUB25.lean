/- .. -/
import Derived.Test.YtanhdliaaccacaaGreatUB3
import Derived.StillTailTactics
import Derived.Sort.Grow
import Derived.Deep.Draws
import Derived.Test.YtanhdliaaccacaaGreatUB24
import Derived.Test.YtanhdliaaccacaaGreatShelfF
import Derived.Shelf.SlSortCmp.NoneTotal
import Derived.Test.YtanhdliaaccacaaGreatUB18
namespace Go.Proofs.YtanhdliaaccacaaGreat
open Go.RowKit
open Go.RowKit Go.Shelf Go.Sort
open Go.Maps (Keyed)
open Go.RowKit Go.Shelf
set_option linter.unusedVariables false
set_option maxHeartbeats 64000000
set_option maxRecDepth 100000
def mG (a b:Int):Int:=if a < b then -1 else if b < a then 1 else 0
theorem ym (a b:Int):(a < b∧mG a b=-1)∨(decide (a < b)=false∧b < a∧mG a b=1)∨(decide (a < b)=false∧decide (b < a)=false∧mG a b=0):=by
 unfold mG
 by_cases h:a < b
 ·left;simp [h]
 ·right
  by_cases h2:b < a
  ·left;simp [h,h2]
  ·right;simp [h,h2]
theorem MP (a b:Int) (w:World):Calls Tryz.prog 114 #[.int .u32 a,.int .u32 b] w fun e w'=>e=.returned (.int .i64 (mG a b))∧w'=w:=by
 rcases ym a b with ⟨h,e⟩|⟨h,h2,e⟩|⟨h,h2,e⟩
 all_goals
  rw [e]
  clear e
  go_enter Tryz.func114,Tryz.ntmps114
  go_wp2
  go_ret
  exact⟨rfl,rfl⟩
theorem FJ (a b:Int) (w:World):Calls Tryz.prog 115 #[.int .i64 a,.int .i64 b] w fun e w'=>e=.returned (.int .i64 (mG a b))∧w'=w:=by
 rcases ym a b with ⟨h,e⟩|⟨h,h2,e⟩|⟨h,h2,e⟩
 all_goals
  rw [e]
  clear e
  go_enter Tryz.func115,Tryz.ntmps115
  go_wp2
  go_ret
  exact⟨rfl,rfl⟩
def IU (l:List Int):Int:=(l.find? (fun x=>x != 0)).getD 0
def aai (l:List Int) (v k:Value):Prop:=∃ j:Nat,k=.int .i64 j∧j≤l.length∧∀ i x,i < j→l[i]?=some x→x=0
theorem Vj {l:List Int} {j:Nat} {x:Int} (hz:∀ i y,i < j→l[i]?=some y→y=0) (hx:l[j]?=some x) (h:x≠0):IU l=x:=by
 induction l generalizing j with
 | nil=>simp at hx
 | cons y r ih=>
  cases j with
  | zero=>simp at hx;subst hx;simp [IU,h]
  | succ j=>
   have:y=0:=hz 0 y (by omega) rfl
   subst this
   have:=ih (j:=j) (fun i y hi hy=>hz (i+1) y (by omega) (by simpa using hy)) (by simpa using hx)
   simpa [IU] using this
theorem or_none {l:List Int} (hz:∀ i y,i < l.length→l[i]?=some y→y=0):IU l=0:=by
 induction l with
 | nil=>rfl
 | cons y r ih=>
  have:y=0:=hz 0 y (by simp) rfl
  subst this
  have:=ih (fun i y hi hy=>hz (i+1) y (by simpa using hi) (by simpa using hy))
  simpa [IU] using this
theorem Yk (g:Nat) (l:List Int) (hl:l.length≤1000) (w:World) (hc:∀ j x,l[j]?=some x→w.cell? ⟨g,j,none⟩=some (.int .i64 x)) (cap:Nat) (hcap:l.length≤cap) (hm:cap≤maxLen) :
  Calls Tryz.prog 113 #[.slice (some ⟨g,0,none⟩) l.length cap] w fun e w'=>e=.returned (.int .i64 (IU l))∧w'=w:=by
 have HC:=Lib.hid hc
 clear hc
 go_enter Tryz.func113,Tryz.ntmps113
 go_wp2
 go_loop [5,8] (aai l) (fun _ k=>l.length - (intOf k).toNat)
 case atStart=>exact⟨0,rfl,Nat.zero_le _,fun i x hi=>by omega⟩
 case round=>
  obtain⟨j,rfl,hj,hz⟩:=hrel
  have HZ:=Lib.hid hz
  clear hz
  by_cases hlt:j < l.length
  ·obtain⟨x,hx⟩:∃ x,l[j]?=some x:=⟨l[j],List.getElem?_eq_getElem hlt⟩
   have c0:=HC.out j x hx
   have hlt':(j:Int) < (l.length:Int):=by omega
   have HX:=Lib.hid hx
   clear hx
   by_cases h0:x=0
   ·subst h0
    go_wp2
    go_round
    case rel=>exact⟨j+1,by congr 1,by omega,fun i y hi hy=>by
     by_cases e:i=j
     ·subst e;rw [HX.out] at hy;cases hy;rfl
     ·exact HZ.out i y (by omega) hy⟩
    case measure=>simp [intOf];omega
   ·have HO:Hid (IU l=x):=Lib.hid (Vj HZ.out HX.out h0)
    have hne:(x != 0)=true:=by simpa using h0
    go_wp2
    go_ret
    refine⟨?_,rfl⟩
    rw [HO.out];rfl
  ·have hge:(l.length:Int)≤(j:Int):=by omega
   have HO:Hid (IU l=0):=Lib.hid (or_none (fun i y hi hy=>HZ.out i y (by omega) hy))
   go_wp2
   go_ret
   refine⟨?_,rfl⟩
   rw [HO.out];rfl
theorem aaj (a b:rX):decide (IU [mG a.src b.src,mG a.dst b.dst,mG a.proto b.proto,mG a.ag b.ag,mG a.ah b.ah] < 0)=uE a b:=by
 rw [Bool.eq_iff_iff]
 simp only [uE,Bool.or_eq_true,Bool.and_eq_true,decide_eq_true_eq]
 have key:∀ (x y:Int) (r:List Int),IU (mG x y::r) < 0↔(x < y∨(x=y∧IU r < 0)):=by
  intro x y r
  rcases ym x y with ⟨h,e⟩|⟨h,h2,e⟩|⟨h,h2,e⟩
  ·rw [e];simp [IU,h]
  ·rw [e];simp [IU];simp at h;omega
  ·rw [e]
   simp at h h2
   have:x=y:=by omega
   subst this
   simp [IU]
 rw [key,key,key,key,key]
 simp [IU]
def Sa (b:Bool) (w:World) (e:Ending) (w':World):Prop:=e=.returned (.bool b)∧∃ q os,w'=Sort.grow (w.drewN q) os
theorem aak (w:World) (x y z:Obj):(((w.alloc x).alloc y).alloc z).drew=Sort.grow (w.drewN 1) (#[x]++#[y]++#[z]):=by
 rw [Sort.alloc_eq_grow,Sort.alloc_eq_grow,Sort.alloc_eq_grow,Sort.grow_grow,Sort.grow_grow];rfl
theorem Vk (x1 x2 x3 x4 x5:Int) (W:World):Calls Tryz.prog 113 #[.slice (some ⟨W.heap.size,0,none⟩) 5 5] (W.alloc (.cells #[.int .i64 x1,.int .i64 x2,.int .i64 x3,.int .i64 x4,.int .i64 x5] 3)).drew
  fun e w'=>e=.returned (.int .i64 (IU [x1,x2,x3,x4,x5]))∧w'=(W.alloc (.cells #[.int .i64 x1,.int .i64 x2,.int .i64 x3,.int .i64 x4,.int .i64 x5] 3)).drew:=
 Yk W.heap.size [x1,x2,x3,x4,x5] (by simp) _ (fun j x hx=>cell_of (C:=#[.int .i64 x1,.int .i64 x2,.int .i64 x3,.int .i64 x4,.int .i64 x5]) (T:=3) (fz:=(0,0)) (w:=(W.alloc (.cells #[.int .i64 x1,.int .i64 x2,.int .i64 x3,.int .i64 x4,.int .i64 x5] 3)).drew) (dO (w:=W)) (by
  match j,hx with
  | 0,hx=>simp at hx;subst hx;rfl
  | 1,hx=>simp at hx;subst hx;rfl
  | 2,hx=>simp at hx;subst hx;rfl
  | 3,hx=>simp at hx;subst hx;rfl
  | 4,hx=>simp at hx;subst hx;rfl
  | j+5,hx=>simp at hx)) 5 (by simp) (by unfold maxLen;omega)
theorem Sb (a b:rX) (w:World):Calls Tryz.prog 55 #[.agg (dE a),.agg (dE b)] w (Sa (uE a b) w):=by
 have HL:=Lib.hid (aaj a b)
 have HP:=aak w (.cells (dE a) 47) (.cells (dE b) 47)
 have HP':=Lib.hid HP
 clear HP
 go_enter Tryz.func55,Tryz.ntmps55
 go_wp2_with fail
 have hA:((w.alloc (.cells (dE a) 47)).alloc (.cells (dE b) 47)).heap[w.heap.size]?=some (.cells (dE a) 47 (0,0)):=(eF (by simp)).trans dO
 have hB:((w.alloc (.cells (dE a) 47)).alloc (.cells (dE b) 47)).heap[w.heap.size+1]?=some (.cells (dE b) 47 (0,0)):=mR (by simp)
 generalize (w.alloc (.cells (dE a) 47)).alloc (.cells (dE b) 47)=W at *
 generalize w.heap.size+1=g2 at *
 generalize w.heap.size=g1 at *
 have a0:=cell_of (o:=0) hA rfl
 have a1:=cell_of (o:=1) hA rfl
 have a2:=cell_of (o:=2) hA rfl
 have a3:=cell_of (o:=3) hA rfl
 have a4:=cell_of (o:=4) hA rfl
 have b0:=cell_of (o:=0) hB rfl
 have b1:=cell_of (o:=1) hB rfl
 have b2:=cell_of (o:=2) hB rfl
 have b3:=cell_of (o:=3) hB rfl
 have b4:=cell_of (o:=4) hB rfl
 clear hA hB
 refine wp_region_still_tail 25 (by kernel_rfl) (by kernel_rfl) ?_
 simp only [List.take_succ_cons,List.take_zero,List.drop_succ_cons,List.drop_zero]
 change wpStill _ _ W.drew _ _ _
 repeat still_step
 still_call (MP _ _ _)
 repeat still_step
 still_call (MP _ _ _)
 repeat still_step
 still_call (FJ _ _ _)
 repeat still_step
 still_call (FJ _ _ _)
 repeat still_step
 still_call (FJ _ _ _)
 refine wpStill_nil ?_
 change wpList _ _ _ _ _ W.drew
 clear a0 a1 a2 a3 a4 b0 b1 b2 b3 b4
 have HO:=Lib.hid (fun W':World=>Vk (mG a.src b.src) (mG a.dst b.dst) (mG a.proto b.proto) (mG a.ag b.ag) (mG a.ah b.ah) W')
 generalize IU [mG a.src b.src,mG a.dst b.dst,mG a.proto b.proto,mG a.ag b.ag,mG a.ah b.ah]=r at *
 generalize mG a.src b.src=x1 at *
 generalize mG a.dst b.dst=x2 at *
 generalize mG a.proto b.proto=x3 at *
 generalize mG a.ag b.ag=x4 at *
 generalize mG a.ah b.ah=x5 at *
 go_wp2_with fail
 refine (HO.out _).mono ?_
 rintro e w2 ⟨rfl,rfl⟩
 go_wp2_with fail
 go_ret
 exact⟨by rw [← HL.out];rfl,1,_,HP'.out _⟩
def Vl (x y:Fl):Int:=if uE x.t y.t=true then -1 else 1
theorem vP (x y:Fl):ltOf Vl x y=uE x.t y.t:=by
 unfold ltOf Vl
 by_cases h:uE x.t y.t=true <;> simp [h]
theorem aal:SWO (ltOf Vl) where
 irrefl x:=by rw [vP];exact iw _
 trans x y z h1 h2:=by rw [vP] at *;exact mo h1 h2
 ntrans x y z h1 h2:=by
  rw [vP] at *
  cases h:uE x.t z.t with
  | false=>rfl
  | true=>
   cases hyx:uE y.t x.t with
   | true=>rw [mo hyx h] at h2;cases h2
   | false=>
    have e:=ug h1 hyx
    rw [e] at h;rw [h] at h2;cases h2
abbrev Sc (f:Fl):List Value:=(dQ f).toList
def leF (x y:Fl):Bool:=!uE y.t x.t
def sortF (L:List Fl):List Fl:=L.mergeSort leF
theorem BF (L:List Fl):(sortF L).Perm L:=List.mergeSort_perm _ _
theorem Ou (L:List Fl):(sortF L).Pairwise (fun x y=>uE y.t x.t=false):=by
 have:=List.pairwise_mergeSort (le:=leF) (fun a b c h1 h2=>by
  simp only [leF,Bool.not_eq_true'] at *
  have:=aal.ntrans c b a (by rw [vP];exact h2) (by rw [vP];exact h1)
  rwa [vP] at this) (fun a b=>by
  simp only [leF,Bool.or_eq_true,Bool.not_eq_true']
  cases h:uE b.t a.t with
  | false=>left;rfl
  | true=>
   right
   cases h2:uE a.t b.t with
   | false=>rfl
   | true=>have:=mo h h2;rw [iw] at this;cases this) L
 exact this.imp (fun h=>by simpa [leF] using h)
theorem MQ {L M:List Fl} (hp:M.Perm L) (hk:(L.map (·.t)).Nodup) (hs:M.Pairwise (fun x y=>uE y.t x.t=false)):M=sortF L:=by
 have hp2:M.Perm (sortF L):=hp.trans (BF L).symm
 refine List.Perm.eq_of_pairwise (le:=fun a b:Fl=>uE b.t a.t=false) (fun a b ha hb h1 h2=>?_) hs (Ou L) hp2
 have ht:a.t=b.t:=ug h2 h1
 have ha':a∈L:=hp.mem_iff.1 ha
 have hb':b∈L:=(BF L).mem_iff.1 hb
 obtain⟨i,hi,rfl⟩:=List.mem_iff_getElem.1 ha'
 obtain⟨j,hj,rfl⟩:=List.mem_iff_getElem.1 hb'
 have:(L.map (·.t))[i]?=(L.map (·.t))[j]?:=by simp [hi,hj,ht]
 have:=(List.getElem?_inj (by simpa using hi) hk).1 this
 subst this;rfl
theorem IV {d:Array Fl} (h:SortedIn (ltOf Vl) 0 d.size d):d.toList.Pairwise (fun x y=>uE y.t x.t=false):=by
 rw [List.pairwise_iff_getElem]
 intro i j hi hj hij
 have:=h i j (Nat.zero_le _) hij (by simpa using hj)
 rw [vP,getElem!_pos d i (by simpa using hi),getElem!_pos d j (by simpa using hj)] at this
 simpa using this
theorem Ov (L:List Fl):lU L=(L.map Sc).flatten:=rfl
theorem Vm (x y:Fl) (W:World):Calls Tryz.prog 54 #[.agg (dQ x),.agg (dQ y)] W fun e w'=>e=.returned (.int .i64 (Vl x y))∧∃ q os',w'=grow (W.drewN q) os':=by
 have HP:Hid (∀ q os,∃ q' os',grow (((W.alloc (.cells (dQ x) 49)).alloc (.cells (dQ y) 49)).drewN q) os=grow (W.drewN q') os'):=Lib.hid fun q os=>⟨q,_,by rw [Sort.alloc_eq_grow,Sort.alloc_eq_grow,Sort.grow_grow];show grow (grow (W.drewN q) _) os=_;rw [Sort.grow_grow]⟩
 have C1:=Lib.hid (fun w=>Sb x.t y.t w)
 have HC:Hid (Vl x y=if uE x.t y.t=true then -1 else 1):=Lib.hid rfl
 generalize Vl x y=r at *
 generalize uE x.t y.t=b at *
 go_enter Tryz.func54,Tryz.ntmps54
 cases b
 ·obtain rfl:r=1:=by simpa using HC.out
  go_wp2_with fail
  refine (C1.out _).mono ?_
  rintro e w1 ⟨rfl,q,os,hw⟩
  have HW:=Lib.hid hw
  clear hw
  go_wp2_with fail
  go_ret
  exact⟨rfl,by rw [HW.out];exact HP.out q os⟩
 ·obtain rfl:r=-1:=by simpa using HC.out
  go_wp2_with fail
  refine (C1.out _).mono ?_
  rintro e w1 ⟨rfl,q,os,hw⟩
  have HW:=Lib.hid hw
  clear hw
  go_wp2_with fail
  go_ret
  exact⟨rfl,by rw [HW.out];exact HP.out q os⟩
theorem Sd (blk off size:Nat) (w:World):CmpLays Tryz.prog 54 #[] Sc 8 Vl blk off size w:=
 fun _ _ _ _ x y=>Vm x y _
theorem Yl (w:World):(isAgg 49).run Tryz.prog w=.ok true w:=by kernel_rfl
theorem Vn (w:World):(Go.sizeOf 49).run Tryz.prog w=.ok 8 w:=by kernel_rfl
theorem Ow {w:World} {base g cap:Nat} {xs L:List Fl} (hrow:w.ownsRow base 49 8 (.slice (some ⟨g,0,none⟩) xs.length cap) xs.length (lU xs)) (hp:xs.Perm L) (hL:L.length≤1000000) (hk:(L.map (·.t)).Nodup) :
  Calls Tryz.prog 111 #[.slice (some ⟨g,0,none⟩) xs.length cap,.func (.func 54) #[] #[]] w fun e w'=>e=.returned (.tuple #[])∧w'.ownsRow base 49 8 (.slice (some ⟨g,0,none⟩) xs.length cap) xs.length (lU (sortF L))∧w.grownBy w' (some g):=by
 rcases hrow.2 with ⟨e,_⟩|⟨g',cap',cur,e,hbase,hgb,r1,r2,r3,r4⟩
 ·cases e
 cases e
 have hH:HoldsK Sc 8 w g 0 xs.toArray:=Ll (fun _=>rfl) (by omega) hgb (by simpa [lU] using r4)
 have hsz:xs.length < 4611686018427387904:=by have:=hp.length_eq;omega
 have hcon:=AnyQ.slices_SortFunc Tryz.sortF 8 Yl Vn Sc (fun _=>rfl) (fun x v hv=>by simp [Sc] at hv;rcases hv with rfl | rfl | rfl | rfl | rfl | rfl | rfl | rfl <;> rfl) Vl aal 54 #[] g 0 cap xs.toArray w
  (enters_of Tryz.func54 (by kernel_rfl) rfl) (Sd g 0 xs.toArray.size w) hH (kr hgb) (by simpa using hsz)
 refine (show Calls Tryz.prog 111 #[.slice (some ⟨g,0,none⟩) xs.length cap,.func (.func 54) #[] #[]] w _ from hcon).mono fun e w' ⟨he,d',n,os,hpm,hsd,hw⟩=>⟨he,?_,?_⟩
 ·have hds:d'.size=xs.length:=by have:=hpm.1;simpa using this
  have hd:d'.toList=sortF L:=by
   refine MQ ?_ hk (IV (by rw [hds];simpa using hsd))
   have h3:=hpm.2.2
   simp only [List.size_toArray,← hds,Array.extract_size] at h3
   have:(xs.toArray.extract 0 d'.size).toList=xs:=by rw [hds];simp
   rw [this] at h3
   exact h3.trans hp
  rw [hw,Ov,← hd]
  exact Cs (fun _=>rfl) (by omega) hds hbase hgb r1 r2 r3
 ·rw [hw];exact Cr d'
theorem WL {L:List Fl} (h:nH L):(L.map (·.t)).Nodup:=by
 unfold List.Nodup
 rw [List.pairwise_map]
 refine List.Pairwise.imp (fun {x y} hl e=>?_) h
 rw [e,iw] at hl;cases hl
theorem FK (Bm bm:Nat) (L:List Fl) (w:World) (hL:L.length≤1000000) (hBm:Bm < w.heap.size) (hm:w.cell? ⟨Bm,0,none⟩=some (.map (some bm))) (hM:ll Tryz.prog 47 w bm (xV IK XV L) L.length) (hs:nH L) :
  Calls Tryz.prog 52 #[.func (.func 112) #[] #[.pointer (some ⟨Bm,0,none⟩)],.func (.func 54) #[] #[]] w fun e w'=>∃ v,e=.returned v∧w'.ownsRow w.heap.size 49 8 v L.length (lU (sortF L))∧Below w.heap.size w w':=by
 have hk:=WL hs
 have HC:=Lib.hid (FI Bm bm L w hL hBm hm hM (uA hs))
 have HK:=Lib.hid hk
 have HL:=Lib.hid hL
 clear hM hm hk hs hBm hL
 go_enter Tryz.func52,Tryz.ntmps52
 go_wp2_with fail
 refine HC.out.mono ?_
 rintro e w1 ⟨v,xs,rfl,hp,hrow,hb⟩
 have hlen:xs.length=L.length:=hp.length_eq
 have HB:=Lib.hid hb
 rcases hrow.2 with ⟨rfl,hz⟩|⟨g,cap,cur,rfl,hbase,hgb,r1,r2,r3,r4⟩
 ·have hL0:L=[]:=List.length_eq_zero_iff.1 (by omega)
  subst hL0
  have HR:Hid (w1.ownsRow w.heap.size 49 8 (.slice none 0 0) ([]:List Fl).length (lU (sortF []))):=Lib.hid (by
   have e:lU xs=lU (sortF []):=by
    rw [List.length_eq_zero_iff.1 hz];simp [sortF]
   rw [← e]
   have e2:([]:List Fl).length=xs.length:=by simp [hz]
   rw [e2];exact hrow)
  have cN:=AnyF.slices_SortFunc_none (P:=Tryz.prog) Tryz.sortF none 0 (.func (.func 54) #[] #[]) w1
  have CN:Hid (Calls Tryz.prog 111 #[.slice none 0 0,.func (.func 54) #[] #[]] w1 fun e w'=>e=.returned (.tuple #[])∧w'=w1):=Lib.hid cN
  clear hrow hp hb hlen hz cN
  go_wp2_with fail
  refine CN.out.mono ?_
  rintro e w2 ⟨rfl,rfl⟩
  go_wp2_with fail
  go_ret
  exact⟨_,rfl,HR.out,HB.out⟩
 ·have CS:=Lib.hid (Ow hrow hp HL.out HK.out)
  have HG:=Lib.hid hbase
  have HLEN:=Lib.hid hlen
  clear hrow hp hb hlen hgb r1 r2 r3 r4 hbase
  go_wp2_with fail
  refine CS.out.mono ?_
  rintro e w2 ⟨rfl,hr,hg⟩
  have HR:=Lib.hid hr
  have HG2:=Lib.hid hg
  clear hr hg CS
  go_wp2_with fail
  go_ret
  exact⟨_,rfl,by rw [← HLEN.out];exact HR.out,HB.out.grown HG2.out HB.out.size (fun j e=>by cases e;exact HG.out)⟩
theorem Ox {L:List Fl} (h:nH L):sortF L=L:=by
 refine (MQ (List.Perm.refl L) (WL h) (List.Pairwise.imp (fun {x y} hl=>?_) h)).symm
 cases e:uE y.t x.t with
 | false=>rfl
 | true=>have:=mo hl e;rw [iw] at this;cases this
section
variable {F0:List Nat} {w0 w:World} {R:List ax} {fm:Nat} {L:List Fl}
theorem Sg (h:In F0 w0 w R) (i:Nat) (hA:R[i]?=some (Cq fm L)) (hs:nH L) (hL:L.length≤1000000) :
  Calls Tryz.prog 52 #[.func (.func 112) #[] #[.pointer (some ⟨w.heap.size,0,none⟩)],.func (.func 54) #[] #[]] (w.alloc (.cells #[.map (some fm)] 98)) fun e w'=>∃ a c,e=.returned (.slice a L.length c)∧In F0 w0 w' (ay 49 8 (.slice a L.length c) L.length ((L.map fH).flatten)::R):=by
 have h2:=h.alloc (.cells #[.map (some fm)] 98)
 obtain⟨Fm,hbm⟩:=h2.get i hA
 refine (FK w.heap.size fm L _ hL (by simp) (cell_of dO rfl) hbm.2 hs).mono fun e w' ⟨v,he,hrow,hbel⟩=>?_
 rw [Ox hs] at hrow
 obtain⟨hr1,hr2⟩:=zA hrow
 obtain⟨a,c,rfl,-,-,-⟩:=hr1.shape
 exact⟨a,c,he,In.below h2 hbel (ay.aB _ _ _ _ _) hr1 hr2⟩
end
section
variable {F0:List Nat} {w0 w:World} {R:List ax}
theorem Vo (g:Int) (A:Option Addr) (n c:Nat):(#[.int .i64 g,.slice A n c,.slice none 0 0,.slice none 0 0]:Array Value).all (·.oneCell')=true:=by simp [Value.oneCell']
theorem oC (g:Int) (A B C:Option Addr) (n c m d k e:Nat):(#[.int .i64 g,.slice A n c,.slice B m d,.slice C k e]:Array Value).all (·.oneCell')=true:=by simp [Value.oneCell']
theorem FL {dm:Nat} {M:List (Int×Int)} (h:In F0 w0 w R) (i:Nat) (hA:R[i]?=some (zO dm M)) (hs:pY M) {x:Int×Int} (hx:x∈M) (hb:(Lit.int .i64 x.1).wf=true):(Instr.lookup 97 (.map (some dm)) (.int .i64 x.1) false).run Tryz.prog w=.ok (.int .i64 x.2) w:=by
 rcases wO h i hA zN Tryz.underlying97 (z:=.int .i64 0) (by kernel_rfl) (Maps.keyOf_int_mk Tryz.underlying3 hb) false with ⟨y,hy,e,hr⟩|⟨hn,hr⟩
 ·have:y=x:=EW (uB hs) hy hx e
  rw [this] at hr;exact hr
 ·exact absurd rfl (hn x hx)
def Lm (s:eT) (sb tb dm fm b2:Nat) (a:Option Addr) (c':Nat) (pa:Option Addr) (pc:Nat) (ka:Option Addr) (kc:Nat) (F0:List Nat) (w0:World) (R:List ax) (i:Value) (wr:World):Prop:=
 ∃ (k:Nat) (va:Option Addr) (vc:Nat),k≤s.bL.length∧i=.int .i64 k∧In F0 w0 wr (ay 110 2 (.slice va k vc) k (((s.bL.take k).map mi).flatten)::ay 3 1 (.slice ka s.bL.length kc) s.bL.length ((s.bL.map (·.1)).map encZ)::Cells tb #[.int .i64 s.gen,.slice pa s.au.length pc,.slice va k vc,.slice none 0 0] 26::gq (.slice pa s.au.length pc) s.au::Cells b2 #[.int .i64 0,.slice none 0 0,.slice none 0 0,.slice none 0 0] 26::Cells sb (JC s (.slice a s.au.length c') dm fm) 100::gq (.slice a s.au.length c') s.au::zO dm s.bL::Cq fm s.bS::R)
def Vp (s:eT) (sb dm fm b2:Nat) (a:Option Addr) (c':Nat) (F0:List Nat) (w0:World) (R:List ax) (x3:Value) (wx:World):Prop:=
 ∃ tb A ac,x3=.pointer (some ⟨tb,0,none⟩)∧In F0 w0 wx (Cells tb #[.int .i64 s.gen,.slice A s.au.length ac,.slice none 0 0,.slice none 0 0] 26::gq (.slice A s.au.length ac) s.au::Cells b2 #[.int .i64 0,.slice none 0 0,.slice none 0 0,.slice none 0 0] 26::Cells sb (JC s (.slice a s.au.length c') dm fm) 100::gq (.slice a s.au.length c') s.au::zO dm s.bL::Cq fm s.bS::R)
theorem tH {sb:Nat} {s:eT} (h:In F0 w0 w (iF sb s::R)):Calls Tryz.prog 16 #[pR sb] w fun e w'=>∃ A a D d F f,e=.returned (zx s A a D d F f)∧In F0 w0 w' (gq (.slice A s.au.length a) s.au::xA (.slice D s.bL.length d) s.bL::ay 49 8 (.slice F s.bS.length f) s.bS.length ((s.bS.map fH).flatten)::iF sb s::R):=by
 obtain⟨hok,dm,fm,a,c',g0⟩:=h.nu
 have hlen:=(mV hok.au).1
 have g1:=g0.cells #[.int .i64 0,.slice none 0 0,.slice none 0 0,.slice none 0 0] 26
 have g2:=g1.cells #[.int .i64 0,.slice none 0 0,.slice none 0 0,.slice none 0 0] 26
 simp only [World.size_alloc] at g2
 obtain⟨Fv,rv⟩:=(g1.drewN 1).get 2 rfl
 obtain⟨Fy,ry⟩:=(g2.drewN 1).get 3 rfl
 have K1:Hid (Calls Tryz.prog 49 #[.slice a s.au.length c'] (w.alloc (.cells #[.int .i64 0,.slice none 0 0,.slice none 0 0,.slice none 0 0] 26)).drew fun e w'=>∃ v,e=.returned v∧In F0 w0 w' (gq v s.au::Cells w.heap.size #[.int .i64 0,.slice none 0 0,.slice none 0 0,.slice none 0 0] 26::Cells sb (JC s (.slice a s.au.length c') dm fm) 100::gq (.slice a s.au.length c') s.au::zO dm s.bL::Cq fm s.bS::R)):=Lib.hid (nQ (g1.drewN 1) (fun e=>ay.Jz rv e) rv.all (Nat.le_trans hlen (by decide)))
 have K2:Hid (Calls Tryz.prog 49 #[.slice a s.au.length c'] ((w.alloc (.cells #[.int .i64 0,.slice none 0 0,.slice none 0 0,.slice none 0 0] 26)).alloc (.cells #[.int .i64 0,.slice none 0 0,.slice none 0 0,.slice none 0 0] 26)).drew fun e w'=>∃ v,e=.returned v∧In F0 w0 w' (gq v s.au::Cells (w.heap.size+1) #[.int .i64 0,.slice none 0 0,.slice none 0 0,.slice none 0 0] 26::Cells w.heap.size #[.int .i64 0,.slice none 0 0,.slice none 0 0,.slice none 0 0] 26::Cells sb (JC s (.slice a s.au.length c') dm fm) 100::gq (.slice a s.au.length c') s.au::zO dm s.bL::Cq fm s.bS::R)):=Lib.hid (nQ (g2.drewN 1) (fun e=>ay.Jz ry e) ry.all (Nat.le_trans hlen (by decide)))
 have UM:Hid ((w.alloc (.cells #[.int .i64 0,.slice none 0 0,.slice none 0 0,.slice none 0 0] 26)).cell? ⟨sb,0,none⟩=some (.int .i64 s.gen)∧(w.alloc (.cells #[.int .i64 0,.slice none 0 0,.slice none 0 0,.slice none 0 0] 26)).cell? ⟨sb,1,none⟩=some (.slice a s.au.length c')):=Lib.hid ⟨cell_of (g1.block 1 rfl) rfl,cell_of (g1.block 1 rfl) rfl⟩
 have HY1:Hid (((w.alloc (.cells #[.int .i64 0,.slice none 0 0,.slice none 0 0,.slice none 0 0] 26)).alloc (.cells #[.int .i64 0,.slice none 0 0,.slice none 0 0,.slice none 0 0] 26)).cell? ⟨sb,0,none⟩=some (.int .i64 s.gen)∧((w.alloc (.cells #[.int .i64 0,.slice none 0 0,.slice none 0 0,.slice none 0 0] 26)).alloc (.cells #[.int .i64 0,.slice none 0 0,.slice none 0 0,.slice none 0 0] 26)).cell? ⟨sb,1,none⟩=some (.slice a s.au.length c')):=Lib.hid ⟨cell_of (g2.block 2 rfl) rfl,cell_of (g2.block 2 rfl) rfl⟩
 have oI:=Lib.hid hok
 clear h hok g0 g1 g2 rv ry hlen
 go_enter Tryz.func16,Tryz.ntmps16
 go_upto_region 3 with fail
 go_cut [3] (Vp s sb dm fm w.heap.size a c' F0 w0 R)
 case first=>
  refine rG (fun w'=>w'.cell? ⟨sb,0,none⟩=some (.int .i64 s.gen)∧w'.cell? ⟨sb,1,none⟩=some (.slice a s.au.length c')) (by kernel_rfl) UM.out (fun hS=>?_)
  refine bC (i:=0) (v:=?_) rfl (by kernel_rfl) (fun _ _ _ h=>h) (by rfl) ?_ hS ?_
  rotate_left
  ·(intro w hSw;(try dsimp only at hSw);go_simp;try with_reducible rfl)
  try simp only [Act.put,List.setIfInBounds_toArray,List.set_cons_zero,List.set_cons_succ]
  refine bC (i:=1) (v:=?_) rfl (by kernel_rfl) (fun _ _ _ h=>h) (by rfl) ?_ hS ?_
  rotate_left
  ·(intro w hSw;(try dsimp only at hSw);go_simp;try with_reducible rfl)
  try simp only [Act.put,List.setIfInBounds_toArray,List.set_cons_zero,List.set_cons_succ]
  refine bC (i:=2) (v:=?_) rfl (by kernel_rfl) (fun _ _ _ h=>h) (by rfl) ?_ hS ?_
  rotate_left
  ·(intro w hSw;(try dsimp only at hSw);go_simp;try with_reducible rfl)
  try simp only [Act.put,List.setIfInBounds_toArray,List.set_cons_zero,List.set_cons_succ]
  refine bC (i:=3) (v:=?_) rfl (by kernel_rfl) (fun _ _ _ h=>h) (by rfl) ?_ hS ?_
  rotate_left
  ·(intro w hSw;(try dsimp only at hSw);go_simp;try with_reducible rfl)
  try simp only [Act.put,List.setIfInBounds_toArray,List.set_cons_zero,List.set_cons_succ]
  refine bC (i:=4) (v:=?_) rfl (by kernel_rfl) (fun _ _ _ h=>h) (by rfl) ?_ hS ?_
  rotate_left
  ·(intro w hSw;(try dsimp only at hSw);go_simp;try with_reducible rfl)
  try simp only [Act.put,List.setIfInBounds_toArray,List.set_cons_zero,List.set_cons_succ]
  refine bC (i:=5) (v:=?_) rfl (by kernel_rfl) (fun _ _ _ h=>h) (by rfl) ?_ hS ?_
  rotate_left
  ·(intro w hSw;(try dsimp only at hSw);go_simp;try with_reducible rfl)
  try simp only [Act.put,List.setIfInBounds_toArray,List.set_cons_zero,List.set_cons_succ]
  refine bC (i:=6) (v:=?_) rfl (by kernel_rfl) (fun _ _ _ h=>h) (by rfl) ?_ hS ?_
  rotate_left
  ·(intro w hSw;(try dsimp only at hSw);go_simp;try with_reducible rfl)
  try simp only [Act.put,List.setIfInBounds_toArray,List.set_cons_zero,List.set_cons_succ]
  refine bC (i:=7) (v:=?_) rfl (by kernel_rfl) (fun _ _ _ h=>h) (by rfl) ?_ hS ?_
  rotate_left
  ·(intro w hSw;(try dsimp only at hSw);go_simp;try with_reducible rfl)
  try simp only [Act.put,List.setIfInBounds_toArray,List.set_cons_zero,List.set_cons_succ]
  refine IG (i:=8) (j:=10) rfl rfl (by kernel_rfl) (fun K' hK=>?_) (fun K' hK=>?_)
  ·go_simp
   go_at_call 49
   refine K1.out.mono ?_
   rintro e w2 ⟨v,rfl,g3⟩
   obtain⟨Fz,rz⟩:=g3.get 0 rfl
   obtain⟨pa,pc,rfl,-,-,-⟩:=ay.shape rz
   have hz:w2.cell? ⟨sb,0,none⟩=some (.int .i64 s.gen)∧w2.cell? ⟨sb,1,none⟩=some (.slice a s.au.length c'):=⟨cell_of (g3.block 2 rfl) rfl,cell_of (g3.block 2 rfl) rfl⟩
   have G3:=Lib.hid g3
   clear g3 hS rz
   refine hK.out _ _ hz (fun hS=>?_)
   clear hK K'
   try simp only [Act.put,List.setIfInBounds_toArray,List.set_cons_zero,List.set_cons_succ]
   refine bC (i:=9) (v:=?_) rfl (by kernel_rfl) (fun _ _ _ h=>h) (by rfl) ?_ hS ?_
   rotate_left
   ·(intro w hSw;(try dsimp only at hSw);go_simp;try with_reducible rfl)
   try simp only [Act.put,List.setIfInBounds_toArray,List.set_cons_zero,List.set_cons_succ]
   have G8:=Lib.hid (G3.out.cells #[.int .i64 s.gen,.slice pa s.au.length pc,.slice none 0 0,.slice none 0 0] 26)
   refine kC (i:=10) rfl (by kernel_rfl) (fun K' hK=>?_)
   go_simp
   refine hK.out _ _ (by have h9:=(G3.out.cells #[.int .i64 0,.slice none 0 0,.slice none 0 0,.slice none 0 0] 26);exact⟨cell_of (h9.block 3 rfl) rfl,cell_of (h9.block 3 rfl) rfl⟩) (fun hS=>?_)
   clear hK K'
   try simp only [Act.put,List.setIfInBounds_toArray,List.set_cons_zero,List.set_cons_succ]
   refine mF (i:=11) rfl (by kernel_rfl) (fun K' hK=>?_)
   go_simp
   refine hK.out _ _ ?_
   clear hK K'
   go_wp2_with fail
   go_meet
   exact⟨_,_,_,rfl,G8.out⟩
  ·go_simp
   clear hS
   refine hK.out _ _ HY1.out (fun hS=>?_)
   clear hK K'
   try simp only [Act.put,List.setIfInBounds_toArray,List.set_cons_zero,List.set_cons_succ]
   refine kC (i:=8) rfl (by kernel_rfl) (fun K' hK=>?_)
   go_simp
   go_at_call 49
   refine K2.out.mono ?_
   rintro e w2 ⟨v,rfl,g3⟩
   obtain⟨Fz,rz⟩:=g3.get 0 rfl
   obtain⟨pa,pc,rfl,-,-,-⟩:=ay.shape rz
   have hz:w2.cell? ⟨sb,0,none⟩=some (.int .i64 s.gen)∧w2.cell? ⟨sb,1,none⟩=some (.slice a s.au.length c'):=⟨cell_of (g3.block 3 rfl) rfl,cell_of (g3.block 3 rfl) rfl⟩
   have ht:=dX (g3.block 1 rfl)
   have g8:=g3.eX 1 rfl (xs:=[.int .i64 s.gen,.slice pa s.au.length pc,.slice none 0 0,.slice none 0 0]) (b:=w.heap.size+1) (C:=#[.int .i64 0,.slice none 0 0,.slice none 0 0,.slice none 0 0]) (T:=26) rfl
   have G8:=Lib.hid g8
   clear g3 g8 hS rz
   refine hK.out _ _ hz (fun hS=>?_)
   clear hK K'
   try simp only [Act.put,List.setIfInBounds_toArray,List.set_cons_zero,List.set_cons_succ]
   refine bC (i:=9) (v:=?_) rfl (by kernel_rfl) (fun _ _ _ h=>h) (by rfl) ?_ hS ?_
   rotate_left
   ·(intro w hSw;(try dsimp only at hSw);go_simp;try with_reducible rfl)
   try simp only [Act.put,List.setIfInBounds_toArray,List.set_cons_zero,List.set_cons_succ]
   refine mF (i:=11) rfl (by kernel_rfl) (fun K' hK=>?_)
   rw [if_pos (by rfl)]
   refine wp_store_mid 26 (.tmp 3) (.tmp 18) rfl (w.heap.size+1) 0 #[.int .i64 s.gen,.slice pa s.au.length pc,.slice none 0 0,.slice none 0 0] (by rfl) (by rfl) ht (by kernel_rfl) (Vo _ _ _ _) ?_
   refine hK.out _ _ ?_
   clear hK K'
   go_wp2_with fail
   go_meet
   exact⟨_,_,_,rfl,G8.out.aL (R1:=[_,_,_]) [1,0,2] (by decide) rfl⟩
 case rest=>
  obtain⟨tb,pa,pc,rfl,dh⟩:=hcut
  have HD:Hid (s.bL.length≤16∧pY s.bL∧∀ x∈s.bL,(Lit.int .i64 x.1).wf=true):=Lib.hid ⟨oI.out.Qf,oI.out.CP,fun x hx=>by have:=(oI.out.Xo x hx).1;exact wf_i64 (by omega) (by omega)⟩
  have KS:=Lib.hid (Vf dh 5 rfl oI.out.CP (Nat.le_trans oI.out.Qf (by decide)))
  have c2:wc.cell? ⟨sb,2,none⟩=some (.map (some dm)):=cell_of (dh.block 3 rfl) rfl
  clear dh K1 K2 UM HY1
  go_wp2_with fail
  refine (Lh _ _).mono ?_
  rintro e w1 ⟨rfl,rfl⟩
  go_wp2_with fail
  refine KS.out.mono ?_
  rintro e w2 ⟨ka,kc,rfl,g5⟩
  have HR:Hid (Lm s sb tb dm fm w.heap.size a c' pa pc ka kc F0 w0 R (.int .i64 0) w2):=Lib.hid ⟨0,none,0,Nat.zero_le _,rfl,(g5.dz 110 2)⟩
  clear g5 KS c2
  go_wp2_with fail
  go_loopw [26] (Lm s sb tb dm fm w.heap.size a c' pa pc ka kc F0 w0 R) (fun k _=>s.bL.length - (intOf k).toNat)
  case atStart=>exact HR.out
  case round=>
   obtain⟨k,va,vc,hk,rfl,dh⟩:=hrel
   clear HR
   by_cases hlt:k < s.bL.length
   ·obtain⟨x,hx⟩:∃ x,s.bL[k]?=some x:=⟨s.bL[k],List.getElem?_eq_getElem hlt⟩
    obtain⟨Fs,hs⟩:=dh.get 1 rfl
    obtain⟨ba,rfl,c0⟩:=hs.at.2 k (.int .i64 x.1) (by simp [hx,encZ])
    have hlt':(k:Int) < (s.bL.length:Int):=Int.ofNat_lt.2 hlt
    have JX:=HD.out.1
    have hw2:wrap64 ((k:Int)+1)=(k:Int)+1:=by unfold wrap64;omega
    have hdr:=dh.drewN 1
    change In F0 w0 wr.drew _ at hdr
    have HS:Hid (∀ w' R',In F0 w0 w' (R'++[])→True):=Lib.hid fun _ _ _=>trivial
    have HX:=Lib.hid hx
    have Yb:=Lib.hid dh
    have PG:=Lib.hid (HD.out.2.2 x (List.mem_of_getElem? hx))
    have m0:=FL hdr 7 rfl HD.out.2.1 (List.mem_of_getElem? hx) PG.out
    have H8:=Lib.hid (hdr.cells #[.int .i64 x.1,.int .i64 x.2] 110)
    have HY:Hid (wr.drew.cell? ⟨tb,2,none⟩=some (.slice va k vc)∧wr.drew.cell? ⟨sb,2,none⟩=some (.map (some dm))∧(Instr.lookup 97 (.map (some dm)) (.int .i64 x.1) false).run Tryz.prog wr.drew=.ok (.int .i64 x.2) wr.drew):=Lib.hid ⟨cell_of (hdr.block 2 rfl) rfl,cell_of (hdr.block 5 rfl) rfl,m0⟩
    have HY8:Hid ((wr.drew.alloc (.cells #[.int .i64 x.1,.int .i64 x.2] 110)).cell? ⟨tb,2,none⟩=some (.slice va k vc)∧(wr.drew.alloc (.cells #[.int .i64 x.1,.int .i64 x.2] 110)).cell? ⟨sb,2,none⟩=some (.map (some dm))∧(Instr.lookup 97 (.map (some dm)) (.int .i64 x.1) false).run Tryz.prog (wr.drew.alloc (.cells #[.int .i64 x.1,.int .i64 x.2] 110))=.ok (.int .i64 x.2) (wr.drew.alloc (.cells #[.int .i64 x.1,.int .i64 x.2] 110))):=Lib.hid ⟨cell_of (H8.out.block 3 rfl) rfl,cell_of (H8.out.block 6 rfl) rfl,FL H8.out 8 rfl HD.out.2.1 (List.mem_of_getElem? hx) PG.out⟩
    have HK:Hid (k≤16):=Lib.hid (by have:=HD.out.1;omega)
    clear dh hdr hs hx hk hlt m0 HS JX
    go_upto_region 7 with fail
    refine rG (fun w'=>w'.cell? ⟨tb,2,none⟩=some (.slice va k vc)∧w'.cell? ⟨sb,2,none⟩=some (.map (some dm))∧(Instr.lookup 97 (.map (some dm)) (.int .i64 x.1) false).run Tryz.prog w'=.ok (.int .i64 x.2) w') (by kernel_rfl) HY.out (fun hS=>?_)
    refine bC (i:=0) (v:=?_) rfl (by kernel_rfl) (fun _ _ _ h=>h) (by rfl) ?_ hS ?_
    rotate_left
    ·(intro w hSw;(try dsimp only at hSw);go_simp;try with_reducible rfl)
    try simp only [Act.put,List.setIfInBounds_toArray,List.set_cons_zero,List.set_cons_succ]
    refine bC (i:=1) (v:=?_) rfl (by kernel_rfl) (fun _ _ _ h=>h) (by rfl) ?_ hS ?_
    rotate_left
    ·(intro w hSw;(try dsimp only at hSw);go_simp;try with_reducible rfl)
    try simp only [Act.put,List.setIfInBounds_toArray,List.set_cons_zero,List.set_cons_succ]
    refine bC (i:=2) (v:=?_) rfl (by kernel_rfl) (fun _ _ _ h=>h) (by rfl) ?_ hS ?_
    rotate_left
    ·(intro w hSw;(try dsimp only at hSw);go_simp;try with_reducible rfl)
    try simp only [Act.put,List.setIfInBounds_toArray,List.set_cons_zero,List.set_cons_succ]
    refine bC (i:=3) (v:=?_) rfl (by kernel_rfl) (fun _ _ _ h=>h) (by rfl) ?_ hS ?_
    rotate_left
    ·(intro w hSw;(try dsimp only at hSw);go_simp;try with_reducible rfl)
    try simp only [Act.put,List.setIfInBounds_toArray,List.set_cons_zero,List.set_cons_succ]
    refine bC (i:=4) (v:=?_) rfl (by kernel_rfl) (fun _ _ _ h=>h) (by rfl) ?_ hS ?_
    rotate_left
    ·(intro w hSw;(try dsimp only at hSw);go_simp;try with_reducible rfl)
    try simp only [Act.put,List.setIfInBounds_toArray,List.set_cons_zero,List.set_cons_succ]
    refine bC (i:=5) (v:=?_) rfl (by kernel_rfl) (fun _ _ _ h=>h) (by rfl) ?_ hS ?_
    rotate_left
    ·(intro w hSw;(try dsimp only at hSw);go_simp;try with_reducible rfl)
    try simp only [Act.put,List.setIfInBounds_toArray,List.set_cons_zero,List.set_cons_succ]
    refine bC (i:=6) (v:=?_) rfl (by kernel_rfl) (fun _ _ _ h=>h) (by rfl) ?_ hS ?_
    rotate_left
    ·(intro w hSw;(try dsimp only at hSw);go_simp;try with_reducible rfl)
    try simp only [Act.put,List.setIfInBounds_toArray,List.set_cons_zero,List.set_cons_succ]
    refine bC (i:=7) (v:=?_) rfl (by kernel_rfl) (fun _ _ _ h=>h) (by rfl) ?_ hS ?_
    rotate_left
    ·(intro w hSw;(try dsimp only at hSw);go_simp;try with_reducible rfl)
    try simp only [Act.put,List.setIfInBounds_toArray,List.set_cons_zero,List.set_cons_succ]
    refine bC (i:=8) (v:=?_) rfl (by kernel_rfl) (fun _ _ _ h=>h) (by rfl) ?_ hS ?_
    rotate_left
    ·(intro w hSw;(try dsimp only at hSw);go_simp;try with_reducible rfl)
    try simp only [Act.put,List.setIfInBounds_toArray,List.set_cons_zero,List.set_cons_succ]
    refine bC (i:=9) (v:=?_) rfl (by kernel_rfl) (fun _ _ _ h=>h) (by rfl) ?_ hS ?_
    rotate_left
    ·(intro w hSw;(try dsimp only at hSw);go_simp;try with_reducible rfl)
    try simp only [Act.put,List.setIfInBounds_toArray,List.set_cons_zero,List.set_cons_succ]
    refine kC (i:=10) rfl (by kernel_rfl) (fun K' hK=>?_)
    go_simp
    refine hK.out _ _ HY8.out (fun hS=>?_)
    clear hK K'
    try simp only [Act.put,List.setIfInBounds_toArray,List.set_cons_zero,List.set_cons_succ]
    refine kC (i:=11) rfl (by kernel_rfl) (fun K' hK=>?_)
    refine lu rfl (by exact H8.out) 1 rfl (.tmp 31) (.tmp 40) 23 (by rfl) Tryz.underlying23 Vg (by decide) (by decide) (by rfl) (by rfl) (by exact Src.of_block (H8.out.block 0 rfl) rfl) (fun u hu=>by simp at hu;rcases hu with rfl | rfl <;> rfl) (by have:=HK.out;omega) ?_
    intro v1 w3 ho1 hg1
    obtain⟨Fo,r1⟩:=ho1.get 1 rfl
    obtain⟨vb,vd,rfl,-,-,-⟩:=ay.shape r1
    have hz:w3.cell? ⟨tb,2,none⟩=some (.slice va k vc)∧w3.cell? ⟨sb,2,none⟩=some (.map (some dm))∧(Instr.lookup 97 (.map (some dm)) (.int .i64 x.1) false).run Tryz.prog w3=.ok (.int .i64 x.2) w3:=⟨cell_of (ho1.block 3 rfl) rfl,cell_of (ho1.block 6 rfl) rfl,FL ho1 8 rfl HD.out.2.1 (List.mem_of_getElem? HX.out) PG.out⟩
    have d2:w3.cell? ⟨tb,2,none⟩=some (.slice va k vc):=hz.1
    have f2:w3.frozen? ⟨tb,2,none⟩=false:=aK (ho1.block 3 rfl)
    have HR2:Hid (Lm s sb tb dm fm w.heap.size a c' pa pc (some ⟨ba,0,none⟩) kc F0 w0 R (.int .i64 ((k:Int)+1)) (w3.setCell ⟨tb,2,none⟩ (.slice vb (k+1) vd))):=Lib.hid (by
     refine⟨k+1,vb,vd,(List.getElem?_eq_some_iff.1 HX.out).1,by rw [Int.natCast_add];rfl,?_⟩
     have g6:=(ho1.put (b:=tb) (T:=26) 3 rfl 2 (.slice vb (k+1) vd)).drop
     rw [List.take_add_one,HX.out,Option.toList_some,List.map_append,List.flatten_append]
     exact g6)
    clear ho1 r1 hg1 H8 HY HY8 hS
    refine hK.out _ _ hz (fun hS=>?_)
    clear hK K' hz
    try simp only [Act.put,List.setIfInBounds_toArray,List.set_cons_zero,List.set_cons_succ]
    refine bC (i:=12) (v:=?_) rfl (by kernel_rfl) (fun _ _ _ h=>h) (by rfl) ?_ hS ?_
    rotate_left
    ·(intro w hSw;(try dsimp only at hSw);go_simp;try with_reducible rfl)
    try simp only [Act.put,List.setIfInBounds_toArray,List.set_cons_zero,List.set_cons_succ]
    refine mF (i:=13) rfl (by kernel_rfl) (fun K' hK=>?_)
    go_simp
    refine hK.out _ _ ?_
    clear hK K' hS
    go_wp2_with fail
    go_roundw
    case rel=>(try rw [hw2]);exact HR2.out
    case measure=>(try rw [hw2]);exact dS hlt'
   ·have hkl:k=s.bL.length:=by omega
    subst hkl
    rw [List.take_length] at dh
    have c3:wr.cell? ⟨sb,3,none⟩=some (.map (some fm)):=cell_of (dh.block 5 rfl) rfl
    have KF:=Lib.hid (Sg dh 8 rfl oI.out.CQ (Nat.le_trans oI.out.fw (by decide)))
    have hge:decide ((s.bL.length:Int) < (s.bL.length:Int))=false:=decide_eq_false (by omega)
    clear dh hlt hk HD
    go_wp2_with fail
    refine (IQ _ _).mono ?_
    rintro e w1 ⟨rfl,rfl⟩
    go_wp2_with fail
    refine KF.out.mono ?_
    rintro e w4 ⟨fa,fc,rfl,g7⟩
    have d3:w4.cell? ⟨tb,3,none⟩=some (.slice none 0 0):=cell_of (g7.block 3 rfl) rfl
    have f3:w4.frozen? ⟨tb,3,none⟩=false:=aK (g7.block 3 rfl)
    have g8:=g7.put (b:=tb) (T:=26) 3 rfl 3 (.slice fa s.bS.length fc)
    have Q0:Hid ((w4.setCell ⟨tb,3,none⟩ (.slice fa s.bS.length fc)).heap[tb]?=some (.cells #[.int .i64 s.gen,.slice pa s.au.length pc,.slice va s.bL.length vc,.slice fa s.bS.length fc] 26 (0,0))):=Lib.hid (g8.block 3 rfl)
    have Q1:=Lib.hid (dX (g8.block 5 rfl))
    have G:=Lib.hid (g8.eX 5 rfl (xs:=[.int .i64 s.gen,.slice pa s.au.length pc,.slice va s.bL.length vc,.slice fa s.bS.length fc]) (b:=w.heap.size) (C:=#[.int .i64 0,.slice none 0 0,.slice none 0 0,.slice none 0 0]) (T:=26) rfl)
    clear g7 g8 KF c3
    go_wp2_with (first | (refine wpList_load_row rfl 26 (.tmp 3) rfl tb rfl 26 _ (0,0) _ Q0.out Tryz.underlying26 rfl (by kernel_rfl) ?_) | (refine wpList_store_mid (op:=⟨none,Op.store 26 (.tmp 2) (.tmp 51),_,_,_,_⟩) (by rfl) 26 (.tmp 2) (.tmp 51) rfl w.heap.size 0 #[.int .i64 s.gen,.slice pa s.au.length pc,.slice va s.bL.length vc,.slice fa s.bS.length fc] (by rfl) (by rfl) Q1.out (by kernel_rfl) (oC _ _ _ _ _ _ _ _ _ _) ?_))
    exact bodyPost_ret (results_cell_row Tryz.results16 _ _ w.heap.size 26 _ (0,0) _ rfl (G.out.block 5 rfl) Tryz.underlying26 rfl (by kernel_rfl)) rfl ⟨_,_,_,_,_,_,rfl,(In.lT (s:=s) (dm:=dm) (fm:=fm) oI.out (G.out.aL (R1:=[_,_,_,_,_,_,_,_,_,_]) [6,7,8,9,4,1,0] (by decide) rfl)).aL (R1:=[_,_,_,_]) [1,2,3,0] (by decide) rfl⟩
end
abbrev FM (v:Value) (l:List Fl):ax:=ay 49 8 v l.length ((l.map fH).flatten)
theorem gm.lens {s:eT} (h:gm s):s.au.length≤16∧s.bL.length≤16∧s.bS.length≤256:=⟨(mV h.au).1,h.Qf,h.fw⟩
section
variable {F0:List Nat} {w0 w:World} {R:List ax} {sb:Nat} {s:eT}
theorem BH {A D G:Option Addr} {a d g:Nat} (i j k:Nat) (hb:R[i]?=some (gq (.slice A s.au.length a) s.au)) (hd:R[j]?=some (xA (.slice D s.bL.length d) s.bL)) (hf:R[k]?=some (FM (.slice G s.bS.length g) s.bS)):xm F0 w0 R s A D G:=
 ⟨fun w' h'=>by obtain⟨F,r⟩:=h'.get i hb;exact r.all,fun w' h'=>by obtain⟨F,r⟩:=h'.get j hd;exact r.all,fun w' h'=>by obtain⟨F,r⟩:=h'.get k hf;exact r.all⟩
theorem xm.more {A D G:Option Addr} (v:xm F0 w0 R s A D G) (X:ax):xm F0 w0 (X::R) s A D G:=⟨fun w' h'=>v.au w' h'.drop,fun w' h'=>v.bL w' h'.drop,fun w' h'=>v.bS w' h'.drop⟩
theorem Oy (h:In F0 w0 w (iF sb s::R)):Calls Tryz.prog 42 #[pR sb] w fun e w'=>∃ v pv,e=.returned v∧In F0 w0 w' (ay 59 14 v (aS s).length (recsV pv (aS s))::gq pv s.au::iF sb s::R):=by
 have hl:=h.nu.1.lens
 have K1:=Lib.hid (tH h)
 have HL:=Lib.hid hl
 clear h hl
 go_enter Tryz.func42,Tryz.ntmps42
 go_wp2_with fail
 refine K1.out.mono ?_
 rintro e w1 ⟨A,a,D,d,F,f,rfl,g⟩
 obtain⟨Fv,rv⟩:=g.get 0 rfl
 have K2:=Lib.hid (IP (a:=a) (d:=d) (f:=f) (BH 0 1 2 rfl rfl rfl) (fun e=>ay.Jz rv e) (Nat.le_trans HL.out.1 (by decide)) (Nat.le_trans HL.out.2.1 (by decide)) (Nat.le_trans HL.out.2.2 (by decide)) g)
 clear g rv K1
 go_wp2_with fail
 refine K2.out.mono ?_
 rintro e w2 ⟨v,pv,rfl,g2⟩
 have G:=Lib.hid (g2.aL (R1:=[_,_,_,_,_,_]) [0,1,5] (by decide) rfl)
 clear g2 K2
 go_wp2_with fail
 go_ret
 exact⟨_,_,rfl,G.out⟩
theorem FN (h:In F0 w0 w R) (i:Nat) (hA:R[i]?=some (iF sb s)):Calls Tryz.prog 42 #[pR sb] w fun e w'=>∃ v pv,e=.returned v∧In F0 w0 w' (ay 59 14 v (aS s).length (recsV pv (aS s))::gq pv s.au::R):=by
 obtain⟨hi,e⟩:=List.getElem?_eq_some_iff.1 hA
 have hp:R.Perm (iF sb s::(R.take i++R.drop (i+1))):=by
  conv=>lhs;rw [← List.take_append_drop i R,List.drop_eq_getElem_cons hi,e]
  exact List.perm_middle
 refine (Oy (h.perm hp)).mono ?_
 rintro e w' ⟨v,pv,rfl,g⟩
 exact⟨v,pv,rfl,g.perm (List.Perm.cons _ (List.Perm.cons _ hp.symm))⟩
end
end Go.Proofs.YtanhdliaaccacaaGreat
