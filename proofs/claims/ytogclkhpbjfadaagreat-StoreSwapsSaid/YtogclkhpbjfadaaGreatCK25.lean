/- Parts of the proofs that a compaction keeps what lives, and done again is as once. -/
import Derived.Test.YtogclkhpbjfadaaGreatCK3
import Derived.StillTailTactics
import Derived.Sort.Grow
import Derived.Deep.Draws
import Derived.Test.YtogclkhpbjfadaaGreatCK24
import Derived.Test.YtogclkhpbjfadaaGreatShelfF
import Derived.Shelf.SlSortCmp.NoneTotal
import Derived.Test.YtogclkhpbjfadaaGreatCK18
namespace Go.Proofs.YtogclkhpbjfadaaGreat
open Go.RowKit
open Go.RowKit Go.Shelf Go.Sort
open Go.Maps (Keyed)
open Go.RowKit Go.Shelf
set_option linter.unusedVariables false
set_option maxHeartbeats 64000000
set_option maxRecDepth 100000
def mE (a b:Int):Int:=if a < b then -1 else if b < a then 1 else 0
theorem yn (a b:Int):(a < b∧mE a b=-1)∨(decide (a < b)=false∧b < a∧mE a b=1)∨(decide (a < b)=false∧decide (b < a)=false∧mE a b=0):=by
 unfold mE
 by_cases h:a < b
 ·left;simp [h]
 ·right
  by_cases h2:b < a
  ·left;simp [h,h2]
  ·right;simp [h,h2]
theorem MB (a b:Int) (w:World):Calls Tryz.prog 201 #[.int .u32 a,.int .u32 b] w fun e w'=>e=.returned (.int .i64 (mE a b))∧w'=w:=by
 rcases yn a b with ⟨h,e⟩|⟨h,h2,e⟩|⟨h,h2,e⟩
 all_goals
  rw [e]
  clear e
  go_enter Tryz.func201,Tryz.ntmps201
  go_wp2
  go_ret
  exact⟨rfl,rfl⟩
theorem FL (a b:Int) (w:World):Calls Tryz.prog 202 #[.int .i64 a,.int .i64 b] w fun e w'=>e=.returned (.int .i64 (mE a b))∧w'=w:=by
 rcases yn a b with ⟨h,e⟩|⟨h,h2,e⟩|⟨h,h2,e⟩
 all_goals
  rw [e]
  clear e
  go_enter Tryz.func202,Tryz.ntmps202
  go_wp2
  go_ret
  exact⟨rfl,rfl⟩
def IG (l:List Int):Int:=(l.find? (fun x=>x != 0)).getD 0
def ZX (l:List Int) (v k:Value):Prop:=∃ j:Nat,k=.int .i64 j∧j≤l.length∧∀ i x,i < j→l[i]?=some x→x=0
theorem Vf {l:List Int} {j:Nat} {x:Int} (hz:∀ i y,i < j→l[i]?=some y→y=0) (hx:l[j]?=some x) (h:x≠0):IG l=x:=by
 induction l generalizing j with
 | nil=>simp at hx
 | cons y r ih=>
  cases j with
  | zero=>simp at hx;subst hx;simp [IG,h]
  | succ j=>
   have:y=0:=hz 0 y (by omega) rfl
   subst this
   have:=ih (j:=j) (fun i y hi hy=>hz (i+1) y (by omega) (by simpa using hy)) (by simpa using hx)
   simpa [IG] using this
theorem or_none {l:List Int} (hz:∀ i y,i < l.length→l[i]?=some y→y=0):IG l=0:=by
 induction l with
 | nil=>rfl
 | cons y r ih=>
  have:y=0:=hz 0 y (by simp) rfl
  subst this
  have:=ih (fun i y hi hy=>hz (i+1) y (by simpa using hi) (by simpa using hy))
  simpa [IG] using this
theorem Yg (g:Nat) (l:List Int) (hl:l.length≤1000) (w:World) (hc:∀ j x,l[j]?=some x→w.cell? ⟨g,j,none⟩=some (.int .i64 x)) (cap:Nat) (hcap:l.length≤cap) (hm:cap≤maxLen) :
  Calls Tryz.prog 200 #[.slice (some ⟨g,0,none⟩) l.length cap] w fun e w'=>e=.returned (.int .i64 (IG l))∧w'=w:=by
 have HC:=Lib.hid hc
 clear hc
 go_enter Tryz.func200,Tryz.ntmps200
 go_wp2
 go_loop [5,8] (ZX l) (fun _ k=>l.length - (intOf k).toNat)
 case atStart=>exact⟨0,rfl,Nat.zero_le _,fun i x hi=>by omega⟩
 case round=>
  obtain⟨j,rfl,hj,hz⟩:=hrel
  have HZ:=Lib.hid hz
  clear hz
  by_cases hlt:j < l.length
  ·obtain⟨x,hx⟩:∃ x,l[j]?=some x:=⟨l[j],List.getElem?_eq_getElem hlt⟩
   have c0:=HC.out j x hx
   have hlt':(j:Int) < (l.length:Int):=by omega
   have HX:=Lib.hid hx
   clear hx
   by_cases h0:x=0
   ·subst h0
    go_wp2
    go_round
    case rel=>exact⟨j+1,by congr 1,by omega,fun i y hi hy=>by
     by_cases e:i=j
     ·subst e;rw [HX.out] at hy;cases hy;rfl
     ·exact HZ.out i y (by omega) hy⟩
    case measure=>simp [intOf];omega
   ·have HO:Hid (IG l=x):=Lib.hid (Vf HZ.out HX.out h0)
    have hne:(x != 0)=true:=by simpa using h0
    go_wp2
    go_ret
    refine⟨?_,rfl⟩
    rw [HO.out];rfl
  ·have hge:(l.length:Int)≤(j:Int):=by omega
   have HO:Hid (IG l=0):=Lib.hid (or_none (fun i y hi hy=>HZ.out i y (by omega) hy))
   go_wp2
   go_ret
   refine⟨?_,rfl⟩
   rw [HO.out];rfl
theorem ZY (a b:rU):decide (IG [mE a.src b.src,mE a.dst b.dst,mE a.proto b.proto,mE a.ag b.ag,mE a.ah b.ah] < 0)=uw a b:=by
 rw [Bool.eq_iff_iff]
 simp only [uw,Bool.or_eq_true,Bool.and_eq_true,decide_eq_true_eq]
 have key:∀ (x y:Int) (r:List Int),IG (mE x y::r) < 0↔(x < y∨(x=y∧IG r < 0)):=by
  intro x y r
  rcases yn x y with ⟨h,e⟩|⟨h,h2,e⟩|⟨h,h2,e⟩
  ·rw [e];simp [IG,h]
  ·rw [e];simp [IG];simp at h;omega
  ·rw [e]
   simp at h h2
   have:x=y:=by omega
   subst this
   simp [IG]
 rw [key,key,key,key,key]
 simp [IG]
def RP (b:Bool) (w:World) (e:Ending) (w':World):Prop:=e=.returned (.bool b)∧∃ q os,w'=Sort.grow (w.drewN q) os
theorem ZZ (w:World) (x y z:Obj):(((w.alloc x).alloc y).alloc z).drew=Sort.grow (w.drewN 1) (#[x]++#[y]++#[z]):=by
 rw [Sort.alloc_eq_grow,Sort.alloc_eq_grow,Sort.alloc_eq_grow,Sort.grow_grow,Sort.grow_grow];rfl
theorem Vg (x1 x2 x3 x4 x5:Int) (W:World):Calls Tryz.prog 200 #[.slice (some ⟨W.heap.size,0,none⟩) 5 5] (W.alloc (.cells #[.int .i64 x1,.int .i64 x2,.int .i64 x3,.int .i64 x4,.int .i64 x5] 3)).drew
  fun e w'=>e=.returned (.int .i64 (IG [x1,x2,x3,x4,x5]))∧w'=(W.alloc (.cells #[.int .i64 x1,.int .i64 x2,.int .i64 x3,.int .i64 x4,.int .i64 x5] 3)).drew:=
 Yg W.heap.size [x1,x2,x3,x4,x5] (by simp) _ (fun j x hx=>cell_of (C:=#[.int .i64 x1,.int .i64 x2,.int .i64 x3,.int .i64 x4,.int .i64 x5]) (T:=3) (fz:=(0,0)) (w:=(W.alloc (.cells #[.int .i64 x1,.int .i64 x2,.int .i64 x3,.int .i64 x4,.int .i64 x5] 3)).drew) (dO (w:=W)) (by
  match j,hx with
  | 0,hx=>simp at hx;subst hx;rfl
  | 1,hx=>simp at hx;subst hx;rfl
  | 2,hx=>simp at hx;subst hx;rfl
  | 3,hx=>simp at hx;subst hx;rfl
  | 4,hx=>simp at hx;subst hx;rfl
  | j+5,hx=>simp at hx)) 5 (by simp) (by unfold maxLen;omega)
theorem RQ (a b:rU) (w:World):Calls Tryz.prog 109 #[.agg (dH a),.agg (dH b)] w (RP (uw a b) w):=by
 have HL:=Lib.hid (ZY a b)
 have HP:=ZZ w (.cells (dH a) 65) (.cells (dH b) 65)
 have HP':=Lib.hid HP
 clear HP
 go_enter Tryz.func109,Tryz.ntmps109
 go_wp2_with fail
 have hA:((w.alloc (.cells (dH a) 65)).alloc (.cells (dH b) 65)).heap[w.heap.size]?=some (.cells (dH a) 65 (0,0)):=(eF (by simp)).trans dO
 have hB:((w.alloc (.cells (dH a) 65)).alloc (.cells (dH b) 65)).heap[w.heap.size+1]?=some (.cells (dH b) 65 (0,0)):=oI (by simp)
 generalize (w.alloc (.cells (dH a) 65)).alloc (.cells (dH b) 65)=W at *
 generalize w.heap.size+1=g2 at *
 generalize w.heap.size=g1 at *
 have a0:=cell_of (o:=0) hA rfl
 have a1:=cell_of (o:=1) hA rfl
 have a2:=cell_of (o:=2) hA rfl
 have a3:=cell_of (o:=3) hA rfl
 have a4:=cell_of (o:=4) hA rfl
 have b0:=cell_of (o:=0) hB rfl
 have b1:=cell_of (o:=1) hB rfl
 have b2:=cell_of (o:=2) hB rfl
 have b3:=cell_of (o:=3) hB rfl
 have b4:=cell_of (o:=4) hB rfl
 clear hA hB
 refine wp_region_still_tail 25 (by kernel_rfl) (by kernel_rfl) ?_
 simp only [List.take_succ_cons,List.take_zero,List.drop_succ_cons,List.drop_zero]
 change wpStill _ _ W.drew _ _ _
 repeat still_step
 still_call (MB _ _ _)
 repeat still_step
 still_call (MB _ _ _)
 repeat still_step
 still_call (FL _ _ _)
 repeat still_step
 still_call (FL _ _ _)
 repeat still_step
 still_call (FL _ _ _)
 refine wpStill_nil ?_
 change wpList _ _ _ _ _ W.drew
 clear a0 a1 a2 a3 a4 b0 b1 b2 b3 b4
 have HO:=Lib.hid (fun W':World=>Vg (mE a.src b.src) (mE a.dst b.dst) (mE a.proto b.proto) (mE a.ag b.ag) (mE a.ah b.ah) W')
 generalize IG [mE a.src b.src,mE a.dst b.dst,mE a.proto b.proto,mE a.ag b.ag,mE a.ah b.ah]=r at *
 generalize mE a.src b.src=x1 at *
 generalize mE a.dst b.dst=x2 at *
 generalize mE a.proto b.proto=x3 at *
 generalize mE a.ag b.ag=x4 at *
 generalize mE a.ah b.ah=x5 at *
 go_wp2_with fail
 refine (HO.out _).mono ?_
 rintro e w2 ⟨rfl,rfl⟩
 go_wp2_with fail
 go_ret
 exact⟨by rw [← HL.out];rfl,1,_,HP'.out _⟩
def Vh (x y:Fl):Int:=if uw x.t y.t=true then -1 else 1
theorem vI (x y:Fl):ltOf Vh x y=uw x.t y.t:=by
 unfold ltOf Vh
 by_cases h:uw x.t y.t=true <;> simp [h]
theorem aaa:SWO (ltOf Vh) where
 irrefl x:=by rw [vI];exact iq _
 trans x y z h1 h2:=by rw [vI] at *;exact mh h1 h2
 ntrans x y z h1 h2:=by
  rw [vI] at *
  cases h:uw x.t z.t with
  | false=>rfl
  | true=>
   cases hyx:uw y.t x.t with
   | true=>rw [mh hyx h] at h2;cases h2
   | false=>
    have e:=tO h1 hyx
    rw [e] at h;rw [h] at h2;cases h2
abbrev RS (f:Fl):List Value:=(eG f).toList
def leF (x y:Fl):Bool:=!uw y.t x.t
def sortF (L:List Fl):List Fl:=L.mergeSort leF
theorem BF (L:List Fl):(sortF L).Perm L:=List.mergeSort_perm _ _
theorem Od (L:List Fl):(sortF L).Pairwise (fun x y=>uw y.t x.t=false):=by
 have:=List.pairwise_mergeSort (le:=leF) (fun a b c h1 h2=>by
  simp only [leF,Bool.not_eq_true'] at *
  have:=aaa.ntrans c b a (by rw [vI];exact h2) (by rw [vI];exact h1)
  rwa [vI] at this) (fun a b=>by
  simp only [leF,Bool.or_eq_true,Bool.not_eq_true']
  cases h:uw b.t a.t with
  | false=>left;rfl
  | true=>
   right
   cases h2:uw a.t b.t with
   | false=>rfl
   | true=>have:=mh h h2;rw [iq] at this;cases this) L
 exact this.imp (fun h=>by simpa [leF] using h)
theorem MC {L M:List Fl} (hp:M.Perm L) (hk:(L.map (·.t)).Nodup) (hs:M.Pairwise (fun x y=>uw y.t x.t=false)):M=sortF L:=by
 have hp2:M.Perm (sortF L):=hp.trans (BF L).symm
 refine List.Perm.eq_of_pairwise (le:=fun a b:Fl=>uw b.t a.t=false) (fun a b ha hb h1 h2=>?_) hs (Od L) hp2
 have ht:a.t=b.t:=tO h2 h1
 have ha':a∈L:=hp.mem_iff.1 ha
 have hb':b∈L:=(BF L).mem_iff.1 hb
 obtain⟨i,hi,rfl⟩:=List.mem_iff_getElem.1 ha'
 obtain⟨j,hj,rfl⟩:=List.mem_iff_getElem.1 hb'
 have:(L.map (·.t))[i]?=(L.map (·.t))[j]?:=by simp [hi,hj,ht]
 have:=(List.getElem?_inj (by simpa using hi) hk).1 this
 subst this;rfl
theorem II {d:Array Fl} (h:SortedIn (ltOf Vh) 0 d.size d):d.toList.Pairwise (fun x y=>uw y.t x.t=false):=by
 rw [List.pairwise_iff_getElem]
 intro i j hi hj hij
 have:=h i j (Nat.zero_le _) hij (by simpa using hj)
 rw [vI,getElem!_pos d i (by simpa using hi),getElem!_pos d j (by simpa using hj)] at this
 simpa using this
theorem Oe (L:List Fl):lU L=(L.map RS).flatten:=rfl
theorem Vi (x y:Fl) (W:World):Calls Tryz.prog 108 #[.agg (eG x),.agg (eG y)] W fun e w'=>e=.returned (.int .i64 (Vh x y))∧∃ q os',w'=grow (W.drewN q) os':=by
 have HP:Hid (∀ q os,∃ q' os',grow (((W.alloc (.cells (eG x) 67)).alloc (.cells (eG y) 67)).drewN q) os=grow (W.drewN q') os'):=Lib.hid fun q os=>⟨q,_,by rw [Sort.alloc_eq_grow,Sort.alloc_eq_grow,Sort.grow_grow];show grow (grow (W.drewN q) _) os=_;rw [Sort.grow_grow]⟩
 have C1:=Lib.hid (fun w=>RQ x.t y.t w)
 have HC:Hid (Vh x y=if uw x.t y.t=true then -1 else 1):=Lib.hid rfl
 generalize Vh x y=r at *
 generalize uw x.t y.t=b at *
 go_enter Tryz.func108,Tryz.ntmps108
 cases b
 ·obtain rfl:r=1:=by simpa using HC.out
  go_wp2_with fail
  refine (C1.out _).mono ?_
  rintro e w1 ⟨rfl,q,os,hw⟩
  have HW:=Lib.hid hw
  clear hw
  go_wp2_with fail
  go_ret
  exact⟨rfl,by rw [HW.out];exact HP.out q os⟩
 ·obtain rfl:r=-1:=by simpa using HC.out
  go_wp2_with fail
  refine (C1.out _).mono ?_
  rintro e w1 ⟨rfl,q,os,hw⟩
  have HW:=Lib.hid hw
  clear hw
  go_wp2_with fail
  go_ret
  exact⟨rfl,by rw [HW.out];exact HP.out q os⟩
theorem RU (blk off size:Nat) (w:World):CmpLays Tryz.prog 108 #[] RS 8 Vh blk off size w:=
 fun _ _ _ _ x y=>Vi x y _
theorem Yh (w:World):(isAgg 67).run Tryz.prog w=.ok true w:=by kernel_rfl
theorem Vj (w:World):(Go.sizeOf 67).run Tryz.prog w=.ok 8 w:=by kernel_rfl
theorem Og {w:World} {base g cap:Nat} {xs L:List Fl} (hrow:w.ownsRow base 67 8 (.slice (some ⟨g,0,none⟩) xs.length cap) xs.length (lU xs)) (hp:xs.Perm L) (hL:L.length≤1000000) (hk:(L.map (·.t)).Nodup) :
  Calls Tryz.prog 198 #[.slice (some ⟨g,0,none⟩) xs.length cap,.func (.func 108) #[] #[]] w fun e w'=>e=.returned (.tuple #[])∧w'.ownsRow base 67 8 (.slice (some ⟨g,0,none⟩) xs.length cap) xs.length (lU (sortF L))∧w.grownBy w' (some g):=by
 rcases hrow.2 with ⟨e,_⟩|⟨g',cap',cur,e,hbase,hgb,r1,r2,r3,r4⟩
 ·cases e
 cases e
 have hH:HoldsK RS 8 w g 0 xs.toArray:=KY (fun _=>rfl) (by omega) hgb (by simpa [lU] using r4)
 have hsz:xs.length < 4611686018427387904:=by have:=hp.length_eq;omega
 have hcon:=AnyQ.slices_SortFunc Tryz.sortF 8 Yh Vj RS (fun _=>rfl) (fun x v hv=>by simp [RS] at hv;rcases hv with rfl | rfl | rfl | rfl | rfl | rfl | rfl | rfl <;> rfl) Vh aaa 108 #[] g 0 cap xs.toArray w
  (enters_of Tryz.func108 (by kernel_rfl) rfl) (RU g 0 xs.toArray.size w) hH (jU hgb) (by simpa using hsz)
 refine (show Calls Tryz.prog 198 #[.slice (some ⟨g,0,none⟩) xs.length cap,.func (.func 108) #[] #[]] w _ from hcon).mono fun e w' ⟨he,d',n,os,hpm,hsd,hw⟩=>⟨he,?_,?_⟩
 ·have hds:d'.size=xs.length:=by have:=hpm.1;simpa using this
  have hd:d'.toList=sortF L:=by
   refine MC ?_ hk (II (by rw [hds];simpa using hsd))
   have h3:=hpm.2.2
   simp only [List.size_toArray,← hds,Array.extract_size] at h3
   have:(xs.toArray.extract 0 d'.size).toList=xs:=by rw [hds];simp
   rw [this] at h3
   exact h3.trans hp
  rw [hw,Oe,← hd]
  exact Cv (fun _=>rfl) (by omega) hds hbase hgb r1 r2 r3
 ·rw [hw];exact Cu d'
theorem WE {L:List Fl} (h:oF L):(L.map (·.t)).Nodup:=by
 unfold List.Nodup
 rw [List.pairwise_map]
 refine List.Pairwise.imp (fun {x y} hl e=>?_) h
 rw [e,iq] at hl;cases hl
theorem FM (Bm bm:Nat) (L:List Fl) (w:World) (hL:L.length≤1000000) (hBm:Bm < w.heap.size) (hm:w.cell? ⟨Bm,0,none⟩=some (.map (some bm))) (hM:lu Tryz.prog 65 w bm (xW IA XR L) L.length) (hs:oF L) :
  Calls Tryz.prog 106 #[.func (.func 199) #[] #[.pointer (some ⟨Bm,0,none⟩)],.func (.func 108) #[] #[]] w fun e w'=>∃ v,e=.returned v∧w'.ownsRow w.heap.size 67 8 v L.length (lU (sortF L))∧Below w.heap.size w w':=by
 have hk:=WE hs
 have HC:=Lib.hid (FK Bm bm L w hL hBm hm hM (uk hs))
 have HK:=Lib.hid hk
 have HL:=Lib.hid hL
 clear hM hm hk hs hBm hL
 go_enter Tryz.func106,Tryz.ntmps106
 go_wp2_with fail
 refine HC.out.mono ?_
 rintro e w1 ⟨v,xs,rfl,hp,hrow,hb⟩
 have hlen:xs.length=L.length:=hp.length_eq
 have HB:=Lib.hid hb
 rcases hrow.2 with ⟨rfl,hz⟩|⟨g,cap,cur,rfl,hbase,hgb,r1,r2,r3,r4⟩
 ·have hL0:L=[]:=List.length_eq_zero_iff.1 (by omega)
  subst hL0
  have HR:Hid (w1.ownsRow w.heap.size 67 8 (.slice none 0 0) ([]:List Fl).length (lU (sortF []))):=Lib.hid (by
   have e:lU xs=lU (sortF []):=by
    rw [List.length_eq_zero_iff.1 hz];simp [sortF]
   rw [← e]
   have e2:([]:List Fl).length=xs.length:=by simp [hz]
   rw [e2];exact hrow)
  have cN:=AnyF.slices_SortFunc_none (P:=Tryz.prog) Tryz.sortF none 0 (.func (.func 108) #[] #[]) w1
  have CN:Hid (Calls Tryz.prog 198 #[.slice none 0 0,.func (.func 108) #[] #[]] w1 fun e w'=>e=.returned (.tuple #[])∧w'=w1):=Lib.hid cN
  clear hrow hp hb hlen hz cN
  go_wp2_with fail
  refine CN.out.mono ?_
  rintro e w2 ⟨rfl,rfl⟩
  go_wp2_with fail
  go_ret
  exact⟨_,rfl,HR.out,HB.out⟩
 ·have CS:=Lib.hid (Og hrow hp HL.out HK.out)
  have HG:=Lib.hid hbase
  have HLEN:=Lib.hid hlen
  clear hrow hp hb hlen hgb r1 r2 r3 r4 hbase
  go_wp2_with fail
  refine CS.out.mono ?_
  rintro e w2 ⟨rfl,hr,hg⟩
  have HR:=Lib.hid hr
  have HG2:=Lib.hid hg
  clear hr hg CS
  go_wp2_with fail
  go_ret
  exact⟨_,rfl,by rw [← HLEN.out];exact HR.out,HB.out.grown HG2.out HB.out.size (fun j e=>by cases e;exact HG.out)⟩
theorem Oh {L:List Fl} (h:oF L):sortF L=L:=by
 refine (MC (List.Perm.refl L) (WE h) (List.Pairwise.imp (fun {x y} hl=>?_) h)).symm
 cases e:uw y.t x.t with
 | false=>rfl
 | true=>have:=mh hl e;rw [iq] at this;cases this
section
variable {F0:List Nat} {w0 w:World} {R:List az} {fm:Nat} {L:List Fl}
theorem RV (h:In F0 w0 w R) (i:Nat) (hA:R[i]?=some (Cs fm L)) (hs:oF L) (hL:L.length≤1000000) :
  Calls Tryz.prog 106 #[.func (.func 199) #[] #[.pointer (some ⟨w.heap.size,0,none⟩)],.func (.func 108) #[] #[]] (w.alloc (.cells #[.map (some fm)] 155)) fun e w'=>∃ a c,e=.returned (.slice a L.length c)∧In F0 w0 w' (ay 67 8 (.slice a L.length c) L.length ((L.map ic).flatten)::R):=by
 have h2:=h.alloc (.cells #[.map (some fm)] 155)
 obtain⟨Fm,hbm⟩:=h2.get i hA
 refine (FM w.heap.size fm L _ hL (by simp) (cell_of dO rfl) hbm.2 hs).mono fun e w' ⟨v,he,hrow,hbel⟩=>?_
 rw [Oh hs] at hrow
 obtain⟨hr1,hr2⟩:=zw hrow
 obtain⟨a,c,rfl,-,-,-⟩:=hr1.shape
 exact⟨a,c,he,In.below h2 hbel (ay.aA _ _ _ _ _) hr1 hr2⟩
end
section
variable {F0:List Nat} {w0 w:World} {R:List az}
theorem Vk (g:Int) (A:Option Addr) (n c:Nat):(#[.int .i64 g,.slice A n c,.slice none 0 0,.slice none 0 0]:Array Value).all (·.oneCell')=true:=by simp [Value.oneCell']
theorem qG (g:Int) (A B C:Option Addr) (n c m d k e:Nat):(#[.int .i64 g,.slice A n c,.slice B m d,.slice C k e]:Array Value).all (·.oneCell')=true:=by simp [Value.oneCell']
theorem FN {dm:Nat} {M:List (Int×Int)} (h:In F0 w0 w R) (i:Nat) (hA:R[i]?=some (zN dm M)) (hs:pX M) {x:Int×Int} (hx:x∈M) (hb:(Lit.int .i64 x.1).wf=true):(Instr.lookup 154 (.map (some dm)) (.int .i64 x.1) false).run Tryz.prog w=.ok (.int .i64 x.2) w:=by
 rcases wH h i hA zM Tryz.underlying154 (z:=.int .i64 0) (by kernel_rfl) (Maps.keyOf_int_mk Tryz.underlying3 hb) false with ⟨y,hy,e,hr⟩|⟨hn,hr⟩
 ·have:y=x:=EY (um hs) hy hx e
  rw [this] at hr;exact hr
 ·exact absurd rfl (hn x hx)
def KZ (s:fP) (sb tb dm fm b2:Nat) (a:Option Addr) (c':Nat) (pa:Option Addr) (pc:Nat) (ka:Option Addr) (kc:Nat) (F0:List Nat) (w0:World) (R:List az) (i:Value) (wr:World):Prop:=
 ∃ (k:Nat) (va:Option Addr) (vc:Nat),k≤s.bN.length∧i=.int .i64 k∧In F0 w0 wr (ay 166 2 (.slice va k vc) k (((s.bN.take k).map qC).flatten)::ay 3 1 (.slice ka s.bN.length kc) s.bN.length ((s.bN.map (·.1)).map encZ)::Cells tb #[.int .i64 s.gen,.slice pa s.ax.length pc,.slice va k vc,.slice none 0 0] 62::gG (.slice pa s.ax.length pc) s.ax::Cells b2 #[.int .i64 0,.slice none 0 0,.slice none 0 0,.slice none 0 0] 62::Cells sb (Js s (.slice a s.ax.length c') dm fm) 157::gG (.slice a s.ax.length c') s.ax::zN dm s.bN::Cs fm s.bU::R)
def Vl (s:fP) (sb dm fm b2:Nat) (a:Option Addr) (c':Nat) (F0:List Nat) (w0:World) (R:List az) (x3:Value) (wx:World):Prop:=
 ∃ tb A ac,x3=.pointer (some ⟨tb,0,none⟩)∧In F0 w0 wx (Cells tb #[.int .i64 s.gen,.slice A s.ax.length ac,.slice none 0 0,.slice none 0 0] 62::gG (.slice A s.ax.length ac) s.ax::Cells b2 #[.int .i64 0,.slice none 0 0,.slice none 0 0,.slice none 0 0] 62::Cells sb (Js s (.slice a s.ax.length c') dm fm) 157::gG (.slice a s.ax.length c') s.ax::zN dm s.bN::Cs fm s.bU::R)
theorem BH {sb:Nat} {s:fP} (h:In F0 w0 w (iH sb s::R)):Calls Tryz.prog 34 #[pR sb] w fun e w'=>∃ A a D d F f,e=.returned (Ct s A a D d F f)∧In F0 w0 w' (gG (.slice A s.ax.length a) s.ax::zq (.slice D s.bN.length d) s.bN::ay 67 8 (.slice F s.bU.length f) s.bU.length ((s.bU.map ic).flatten)::iH sb s::R):=by
 obtain⟨hok,dm,fm,a,c',g0⟩:=h.ny
 have hlen:=(mR hok.ax).1
 have g1:=g0.cells #[.int .i64 0,.slice none 0 0,.slice none 0 0,.slice none 0 0] 62
 have g2:=g1.cells #[.int .i64 0,.slice none 0 0,.slice none 0 0,.slice none 0 0] 62
 simp only [World.size_alloc] at g2
 obtain⟨Fv,rv⟩:=(g1.drewN 1).get 2 rfl
 obtain⟨Fy,ry⟩:=(g2.drewN 1).get 3 rfl
 have K1:Hid (Calls Tryz.prog 103 #[.slice a s.ax.length c'] (w.alloc (.cells #[.int .i64 0,.slice none 0 0,.slice none 0 0,.slice none 0 0] 62)).drew fun e w'=>∃ v,e=.returned v∧In F0 w0 w' (gG v s.ax::Cells w.heap.size #[.int .i64 0,.slice none 0 0,.slice none 0 0,.slice none 0 0] 62::Cells sb (Js s (.slice a s.ax.length c') dm fm) 157::gG (.slice a s.ax.length c') s.ax::zN dm s.bN::Cs fm s.bU::R)):=Lib.hid (nK (g1.drewN 1) (fun e=>ay.Hy rv e) rv.all (Nat.le_trans hlen (by decide)))
 have K2:Hid (Calls Tryz.prog 103 #[.slice a s.ax.length c'] ((w.alloc (.cells #[.int .i64 0,.slice none 0 0,.slice none 0 0,.slice none 0 0] 62)).alloc (.cells #[.int .i64 0,.slice none 0 0,.slice none 0 0,.slice none 0 0] 62)).drew fun e w'=>∃ v,e=.returned v∧In F0 w0 w' (gG v s.ax::Cells (w.heap.size+1) #[.int .i64 0,.slice none 0 0,.slice none 0 0,.slice none 0 0] 62::Cells w.heap.size #[.int .i64 0,.slice none 0 0,.slice none 0 0,.slice none 0 0] 62::Cells sb (Js s (.slice a s.ax.length c') dm fm) 157::gG (.slice a s.ax.length c') s.ax::zN dm s.bN::Cs fm s.bU::R)):=Lib.hid (nK (g2.drewN 1) (fun e=>ay.Hy ry e) ry.all (Nat.le_trans hlen (by decide)))
 have XQ:Hid ((w.alloc (.cells #[.int .i64 0,.slice none 0 0,.slice none 0 0,.slice none 0 0] 62)).cell? ⟨sb,0,none⟩=some (.int .i64 s.gen)∧(w.alloc (.cells #[.int .i64 0,.slice none 0 0,.slice none 0 0,.slice none 0 0] 62)).cell? ⟨sb,1,none⟩=some (.slice a s.ax.length c')):=Lib.hid ⟨cell_of (g1.block 1 rfl) rfl,cell_of (g1.block 1 rfl) rfl⟩
 have HY1:Hid (((w.alloc (.cells #[.int .i64 0,.slice none 0 0,.slice none 0 0,.slice none 0 0] 62)).alloc (.cells #[.int .i64 0,.slice none 0 0,.slice none 0 0,.slice none 0 0] 62)).cell? ⟨sb,0,none⟩=some (.int .i64 s.gen)∧((w.alloc (.cells #[.int .i64 0,.slice none 0 0,.slice none 0 0,.slice none 0 0] 62)).alloc (.cells #[.int .i64 0,.slice none 0 0,.slice none 0 0,.slice none 0 0] 62)).cell? ⟨sb,1,none⟩=some (.slice a s.ax.length c')):=Lib.hid ⟨cell_of (g2.block 2 rfl) rfl,cell_of (g2.block 2 rfl) rfl⟩
 have mD:=Lib.hid hok
 clear h hok g0 g1 g2 rv ry hlen
 go_enter Tryz.func34,Tryz.ntmps34
 go_upto_region 3 with fail
 go_cut [3] (Vl s sb dm fm w.heap.size a c' F0 w0 R)
 case first=>
  refine wT (fun w'=>w'.cell? ⟨sb,0,none⟩=some (.int .i64 s.gen)∧w'.cell? ⟨sb,1,none⟩=some (.slice a s.ax.length c')) (by kernel_rfl) XQ.out (fun hS=>?_)
  refine bP (i:=0) (v:=?_) rfl (by kernel_rfl) (fun _ _ _ h=>h) (by rfl) ?_ hS ?_
  rotate_left
  ·(intro w hSw;(try dsimp only at hSw);go_simp;try with_reducible rfl)
  try simp only [Act.put,List.setIfInBounds_toArray,List.set_cons_zero,List.set_cons_succ]
  refine bP (i:=1) (v:=?_) rfl (by kernel_rfl) (fun _ _ _ h=>h) (by rfl) ?_ hS ?_
  rotate_left
  ·(intro w hSw;(try dsimp only at hSw);go_simp;try with_reducible rfl)
  try simp only [Act.put,List.setIfInBounds_toArray,List.set_cons_zero,List.set_cons_succ]
  refine bP (i:=2) (v:=?_) rfl (by kernel_rfl) (fun _ _ _ h=>h) (by rfl) ?_ hS ?_
  rotate_left
  ·(intro w hSw;(try dsimp only at hSw);go_simp;try with_reducible rfl)
  try simp only [Act.put,List.setIfInBounds_toArray,List.set_cons_zero,List.set_cons_succ]
  refine bP (i:=3) (v:=?_) rfl (by kernel_rfl) (fun _ _ _ h=>h) (by rfl) ?_ hS ?_
  rotate_left
  ·(intro w hSw;(try dsimp only at hSw);go_simp;try with_reducible rfl)
  try simp only [Act.put,List.setIfInBounds_toArray,List.set_cons_zero,List.set_cons_succ]
  refine bP (i:=4) (v:=?_) rfl (by kernel_rfl) (fun _ _ _ h=>h) (by rfl) ?_ hS ?_
  rotate_left
  ·(intro w hSw;(try dsimp only at hSw);go_simp;try with_reducible rfl)
  try simp only [Act.put,List.setIfInBounds_toArray,List.set_cons_zero,List.set_cons_succ]
  refine bP (i:=5) (v:=?_) rfl (by kernel_rfl) (fun _ _ _ h=>h) (by rfl) ?_ hS ?_
  rotate_left
  ·(intro w hSw;(try dsimp only at hSw);go_simp;try with_reducible rfl)
  try simp only [Act.put,List.setIfInBounds_toArray,List.set_cons_zero,List.set_cons_succ]
  refine bP (i:=6) (v:=?_) rfl (by kernel_rfl) (fun _ _ _ h=>h) (by rfl) ?_ hS ?_
  rotate_left
  ·(intro w hSw;(try dsimp only at hSw);go_simp;try with_reducible rfl)
  try simp only [Act.put,List.setIfInBounds_toArray,List.set_cons_zero,List.set_cons_succ]
  refine bP (i:=7) (v:=?_) rfl (by kernel_rfl) (fun _ _ _ h=>h) (by rfl) ?_ hS ?_
  rotate_left
  ·(intro w hSw;(try dsimp only at hSw);go_simp;try with_reducible rfl)
  try simp only [Act.put,List.setIfInBounds_toArray,List.set_cons_zero,List.set_cons_succ]
  refine Mo (i:=8) (j:=10) rfl rfl (by kernel_rfl) (fun K' hK=>?_) (fun K' hK=>?_)
  ·go_simp
   go_at_call 103
   refine K1.out.mono ?_
   rintro e w2 ⟨v,rfl,g3⟩
   obtain⟨Fz,rz⟩:=g3.get 0 rfl
   obtain⟨pa,pc,rfl,-,-,-⟩:=ay.shape rz
   have hz:w2.cell? ⟨sb,0,none⟩=some (.int .i64 s.gen)∧w2.cell? ⟨sb,1,none⟩=some (.slice a s.ax.length c'):=⟨cell_of (g3.block 2 rfl) rfl,cell_of (g3.block 2 rfl) rfl⟩
   have G3:=Lib.hid g3
   clear g3 hS rz
   refine hK.out _ _ hz (fun hS=>?_)
   clear hK K'
   try simp only [Act.put,List.setIfInBounds_toArray,List.set_cons_zero,List.set_cons_succ]
   refine bP (i:=9) (v:=?_) rfl (by kernel_rfl) (fun _ _ _ h=>h) (by rfl) ?_ hS ?_
   rotate_left
   ·(intro w hSw;(try dsimp only at hSw);go_simp;try with_reducible rfl)
   try simp only [Act.put,List.setIfInBounds_toArray,List.set_cons_zero,List.set_cons_succ]
   have G8:=Lib.hid (G3.out.cells #[.int .i64 s.gen,.slice pa s.ax.length pc,.slice none 0 0,.slice none 0 0] 62)
   refine nA (i:=10) rfl (by kernel_rfl) (fun K' hK=>?_)
   go_simp
   refine hK.out _ _ (by have h9:=(G3.out.cells #[.int .i64 0,.slice none 0 0,.slice none 0 0,.slice none 0 0] 62);exact⟨cell_of (h9.block 3 rfl) rfl,cell_of (h9.block 3 rfl) rfl⟩) (fun hS=>?_)
   clear hK K'
   try simp only [Act.put,List.setIfInBounds_toArray,List.set_cons_zero,List.set_cons_succ]
   refine pO (i:=11) rfl (by kernel_rfl) (fun K' hK=>?_)
   go_simp
   refine hK.out _ _ ?_
   clear hK K'
   go_wp2_with fail
   go_meet
   exact⟨_,_,_,rfl,G8.out⟩
  ·go_simp
   clear hS
   refine hK.out _ _ HY1.out (fun hS=>?_)
   clear hK K'
   try simp only [Act.put,List.setIfInBounds_toArray,List.set_cons_zero,List.set_cons_succ]
   refine nA (i:=8) rfl (by kernel_rfl) (fun K' hK=>?_)
   go_simp
   go_at_call 103
   refine K2.out.mono ?_
   rintro e w2 ⟨v,rfl,g3⟩
   obtain⟨Fz,rz⟩:=g3.get 0 rfl
   obtain⟨pa,pc,rfl,-,-,-⟩:=ay.shape rz
   have hz:w2.cell? ⟨sb,0,none⟩=some (.int .i64 s.gen)∧w2.cell? ⟨sb,1,none⟩=some (.slice a s.ax.length c'):=⟨cell_of (g3.block 3 rfl) rfl,cell_of (g3.block 3 rfl) rfl⟩
   have ht:=fG (g3.block 1 rfl)
   have g8:=g3.gp 1 rfl (xs:=[.int .i64 s.gen,.slice pa s.ax.length pc,.slice none 0 0,.slice none 0 0]) (b:=w.heap.size+1) (C:=#[.int .i64 0,.slice none 0 0,.slice none 0 0,.slice none 0 0]) (T:=62) rfl
   have G8:=Lib.hid g8
   clear g3 g8 hS rz
   refine hK.out _ _ hz (fun hS=>?_)
   clear hK K'
   try simp only [Act.put,List.setIfInBounds_toArray,List.set_cons_zero,List.set_cons_succ]
   refine bP (i:=9) (v:=?_) rfl (by kernel_rfl) (fun _ _ _ h=>h) (by rfl) ?_ hS ?_
   rotate_left
   ·(intro w hSw;(try dsimp only at hSw);go_simp;try with_reducible rfl)
   try simp only [Act.put,List.setIfInBounds_toArray,List.set_cons_zero,List.set_cons_succ]
   refine pO (i:=11) rfl (by kernel_rfl) (fun K' hK=>?_)
   rw [if_pos (by rfl)]
   refine wp_store_mid 62 (.tmp 3) (.tmp 18) rfl (w.heap.size+1) 0 #[.int .i64 s.gen,.slice pa s.ax.length pc,.slice none 0 0,.slice none 0 0] (by rfl) (by rfl) ht (by kernel_rfl) (Vk _ _ _ _) ?_
   refine hK.out _ _ ?_
   clear hK K'
   go_wp2_with fail
   go_meet
   exact⟨_,_,_,rfl,G8.out.aI (R1:=[_,_,_]) [1,0,2] (by decide) rfl⟩
 case rest=>
  obtain⟨tb,pa,pc,rfl,dC⟩:=hcut
  have HD:Hid (s.bN.length≤16∧pX s.bN∧∀ x∈s.bN,(Lit.int .i64 x.1).wf=true):=Lib.hid ⟨mD.out.PS,mD.out.CO,fun x hx=>by have:=(mD.out.Xk x hx).1;exact wf_i64 (by omega) (by omega)⟩
  have KS:=Lib.hid (Va dC 5 rfl mD.out.CO (Nat.le_trans mD.out.PS (by decide)))
  have c2:wc.cell? ⟨sb,2,none⟩=some (.map (some dm)):=cell_of (dC.block 3 rfl) rfl
  clear dC K1 K2 XQ HY1
  go_wp2_with fail
  refine (KJ _ _).mono ?_
  rintro e w1 ⟨rfl,rfl⟩
  go_wp2_with fail
  refine KS.out.mono ?_
  rintro e w2 ⟨ka,kc,rfl,g5⟩
  have HR:Hid (KZ s sb tb dm fm w.heap.size a c' pa pc ka kc F0 w0 R (.int .i64 0) w2):=Lib.hid ⟨0,none,0,Nat.zero_le _,rfl,(g5.dG 166 2)⟩
  clear g5 KS c2
  go_wp2_with fail
  go_loopw [26] (KZ s sb tb dm fm w.heap.size a c' pa pc ka kc F0 w0 R) (fun k _=>s.bN.length - (intOf k).toNat)
  case atStart=>exact HR.out
  case round=>
   obtain⟨k,va,vc,hk,rfl,dC⟩:=hrel
   clear HR
   by_cases hlt:k < s.bN.length
   ·obtain⟨x,hx⟩:∃ x,s.bN[k]?=some x:=⟨s.bN[k],List.getElem?_eq_getElem hlt⟩
    obtain⟨Fs,hs⟩:=dC.get 1 rfl
    obtain⟨ba,rfl,c0⟩:=hs.at.2 k (.int .i64 x.1) (by simp [hx,encZ])
    have hlt':(k:Int) < (s.bN.length:Int):=Int.ofNat_lt.2 hlt
    have JN:=HD.out.1
    have hw2:wrap64 ((k:Int)+1)=(k:Int)+1:=by unfold wrap64;omega
    have hdr:=dC.drewN 1
    change In F0 w0 wr.drew _ at hdr
    have HS:Hid (∀ w' R',In F0 w0 w' (R'++[])→True):=Lib.hid fun _ _ _=>trivial
    have HX:=Lib.hid hx
    have XY:=Lib.hid dC
    have Vm:=Lib.hid (HD.out.2.2 x (List.mem_of_getElem? hx))
    have m0:=FN hdr 7 rfl HD.out.2.1 (List.mem_of_getElem? hx) Vm.out
    have H8:=Lib.hid (hdr.cells #[.int .i64 x.1,.int .i64 x.2] 166)
    have HY:Hid (wr.drew.cell? ⟨tb,2,none⟩=some (.slice va k vc)∧wr.drew.cell? ⟨sb,2,none⟩=some (.map (some dm))∧(Instr.lookup 154 (.map (some dm)) (.int .i64 x.1) false).run Tryz.prog wr.drew=.ok (.int .i64 x.2) wr.drew):=Lib.hid ⟨cell_of (hdr.block 2 rfl) rfl,cell_of (hdr.block 5 rfl) rfl,m0⟩
    have HY8:Hid ((wr.drew.alloc (.cells #[.int .i64 x.1,.int .i64 x.2] 166)).cell? ⟨tb,2,none⟩=some (.slice va k vc)∧(wr.drew.alloc (.cells #[.int .i64 x.1,.int .i64 x.2] 166)).cell? ⟨sb,2,none⟩=some (.map (some dm))∧(Instr.lookup 154 (.map (some dm)) (.int .i64 x.1) false).run Tryz.prog (wr.drew.alloc (.cells #[.int .i64 x.1,.int .i64 x.2] 166))=.ok (.int .i64 x.2) (wr.drew.alloc (.cells #[.int .i64 x.1,.int .i64 x.2] 166))):=Lib.hid ⟨cell_of (H8.out.block 3 rfl) rfl,cell_of (H8.out.block 6 rfl) rfl,FN H8.out 8 rfl HD.out.2.1 (List.mem_of_getElem? hx) Vm.out⟩
    have HK:Hid (k≤16):=Lib.hid (by have:=HD.out.1;omega)
    clear dC hdr hs hx hk hlt m0 HS JN
    go_upto_region 7 with fail
    refine wT (fun w'=>w'.cell? ⟨tb,2,none⟩=some (.slice va k vc)∧w'.cell? ⟨sb,2,none⟩=some (.map (some dm))∧(Instr.lookup 154 (.map (some dm)) (.int .i64 x.1) false).run Tryz.prog w'=.ok (.int .i64 x.2) w') (by kernel_rfl) HY.out (fun hS=>?_)
    refine bP (i:=0) (v:=?_) rfl (by kernel_rfl) (fun _ _ _ h=>h) (by rfl) ?_ hS ?_
    rotate_left
    ·(intro w hSw;(try dsimp only at hSw);go_simp;try with_reducible rfl)
    try simp only [Act.put,List.setIfInBounds_toArray,List.set_cons_zero,List.set_cons_succ]
    refine bP (i:=1) (v:=?_) rfl (by kernel_rfl) (fun _ _ _ h=>h) (by rfl) ?_ hS ?_
    rotate_left
    ·(intro w hSw;(try dsimp only at hSw);go_simp;try with_reducible rfl)
    try simp only [Act.put,List.setIfInBounds_toArray,List.set_cons_zero,List.set_cons_succ]
    refine bP (i:=2) (v:=?_) rfl (by kernel_rfl) (fun _ _ _ h=>h) (by rfl) ?_ hS ?_
    rotate_left
    ·(intro w hSw;(try dsimp only at hSw);go_simp;try with_reducible rfl)
    try simp only [Act.put,List.setIfInBounds_toArray,List.set_cons_zero,List.set_cons_succ]
    refine bP (i:=3) (v:=?_) rfl (by kernel_rfl) (fun _ _ _ h=>h) (by rfl) ?_ hS ?_
    rotate_left
    ·(intro w hSw;(try dsimp only at hSw);go_simp;try with_reducible rfl)
    try simp only [Act.put,List.setIfInBounds_toArray,List.set_cons_zero,List.set_cons_succ]
    refine bP (i:=4) (v:=?_) rfl (by kernel_rfl) (fun _ _ _ h=>h) (by rfl) ?_ hS ?_
    rotate_left
    ·(intro w hSw;(try dsimp only at hSw);go_simp;try with_reducible rfl)
    try simp only [Act.put,List.setIfInBounds_toArray,List.set_cons_zero,List.set_cons_succ]
    refine bP (i:=5) (v:=?_) rfl (by kernel_rfl) (fun _ _ _ h=>h) (by rfl) ?_ hS ?_
    rotate_left
    ·(intro w hSw;(try dsimp only at hSw);go_simp;try with_reducible rfl)
    try simp only [Act.put,List.setIfInBounds_toArray,List.set_cons_zero,List.set_cons_succ]
    refine bP (i:=6) (v:=?_) rfl (by kernel_rfl) (fun _ _ _ h=>h) (by rfl) ?_ hS ?_
    rotate_left
    ·(intro w hSw;(try dsimp only at hSw);go_simp;try with_reducible rfl)
    try simp only [Act.put,List.setIfInBounds_toArray,List.set_cons_zero,List.set_cons_succ]
    refine bP (i:=7) (v:=?_) rfl (by kernel_rfl) (fun _ _ _ h=>h) (by rfl) ?_ hS ?_
    rotate_left
    ·(intro w hSw;(try dsimp only at hSw);go_simp;try with_reducible rfl)
    try simp only [Act.put,List.setIfInBounds_toArray,List.set_cons_zero,List.set_cons_succ]
    refine bP (i:=8) (v:=?_) rfl (by kernel_rfl) (fun _ _ _ h=>h) (by rfl) ?_ hS ?_
    rotate_left
    ·(intro w hSw;(try dsimp only at hSw);go_simp;try with_reducible rfl)
    try simp only [Act.put,List.setIfInBounds_toArray,List.set_cons_zero,List.set_cons_succ]
    refine bP (i:=9) (v:=?_) rfl (by kernel_rfl) (fun _ _ _ h=>h) (by rfl) ?_ hS ?_
    rotate_left
    ·(intro w hSw;(try dsimp only at hSw);go_simp;try with_reducible rfl)
    try simp only [Act.put,List.setIfInBounds_toArray,List.set_cons_zero,List.set_cons_succ]
    refine nA (i:=10) rfl (by kernel_rfl) (fun K' hK=>?_)
    go_simp
    refine hK.out _ _ HY8.out (fun hS=>?_)
    clear hK K'
    try simp only [Act.put,List.setIfInBounds_toArray,List.set_cons_zero,List.set_cons_succ]
    refine nA (i:=11) rfl (by kernel_rfl) (fun K' hK=>?_)
    refine mO rfl (by exact H8.out) 1 rfl (.tmp 31) (.tmp 40) 59 (by rfl) Tryz.underlying59 Vb (by decide) (by decide) (by rfl) (by rfl) (by exact Src.of_block (H8.out.block 0 rfl) rfl) (fun u hu=>by simp at hu;rcases hu with rfl | rfl <;> rfl) (by have:=HK.out;omega) ?_
    intro v1 w3 ho1 hg1
    obtain⟨Fo,r1⟩:=ho1.get 1 rfl
    obtain⟨vb,vd,rfl,-,-,-⟩:=ay.shape r1
    have hz:w3.cell? ⟨tb,2,none⟩=some (.slice va k vc)∧w3.cell? ⟨sb,2,none⟩=some (.map (some dm))∧(Instr.lookup 154 (.map (some dm)) (.int .i64 x.1) false).run Tryz.prog w3=.ok (.int .i64 x.2) w3:=⟨cell_of (ho1.block 3 rfl) rfl,cell_of (ho1.block 6 rfl) rfl,FN ho1 8 rfl HD.out.2.1 (List.mem_of_getElem? HX.out) Vm.out⟩
    have d2:w3.cell? ⟨tb,2,none⟩=some (.slice va k vc):=hz.1
    have f2:w3.frozen? ⟨tb,2,none⟩=false:=aL (ho1.block 3 rfl)
    have HR2:Hid (KZ s sb tb dm fm w.heap.size a c' pa pc (some ⟨ba,0,none⟩) kc F0 w0 R (.int .i64 ((k:Int)+1)) (w3.setCell ⟨tb,2,none⟩ (.slice vb (k+1) vd))):=Lib.hid (by
     refine⟨k+1,vb,vd,(List.getElem?_eq_some_iff.1 HX.out).1,by rw [Int.natCast_add];rfl,?_⟩
     have g6:=(ho1.put (b:=tb) (T:=62) 3 rfl 2 (.slice vb (k+1) vd)).drop
     rw [List.take_add_one,HX.out,Option.toList_some,List.map_append,List.flatten_append]
     exact g6)
    clear ho1 r1 hg1 H8 HY HY8 hS
    refine hK.out _ _ hz (fun hS=>?_)
    clear hK K' hz
    try simp only [Act.put,List.setIfInBounds_toArray,List.set_cons_zero,List.set_cons_succ]
    refine bP (i:=12) (v:=?_) rfl (by kernel_rfl) (fun _ _ _ h=>h) (by rfl) ?_ hS ?_
    rotate_left
    ·(intro w hSw;(try dsimp only at hSw);go_simp;try with_reducible rfl)
    try simp only [Act.put,List.setIfInBounds_toArray,List.set_cons_zero,List.set_cons_succ]
    refine pO (i:=13) rfl (by kernel_rfl) (fun K' hK=>?_)
    go_simp
    refine hK.out _ _ ?_
    clear hK K' hS
    go_wp2_with fail
    go_roundw
    case rel=>(try rw [hw2]);exact HR2.out
    case measure=>(try rw [hw2]);exact dV hlt'
   ·have hkl:k=s.bN.length:=by omega
    subst hkl
    rw [List.take_length] at dC
    have c3:wr.cell? ⟨sb,3,none⟩=some (.map (some fm)):=cell_of (dC.block 5 rfl) rfl
    have KF:=Lib.hid (RV dC 8 rfl mD.out.CP (Nat.le_trans mD.out.eX (by decide)))
    have hge:decide ((s.bN.length:Int) < (s.bN.length:Int))=false:=decide_eq_false (by omega)
    clear dC hlt hk HD
    go_wp2_with fail
    refine (IE _ _).mono ?_
    rintro e w1 ⟨rfl,rfl⟩
    go_wp2_with fail
    refine KF.out.mono ?_
    rintro e w4 ⟨fa,fc,rfl,g7⟩
    have d3:w4.cell? ⟨tb,3,none⟩=some (.slice none 0 0):=cell_of (g7.block 3 rfl) rfl
    have f3:w4.frozen? ⟨tb,3,none⟩=false:=aL (g7.block 3 rfl)
    have g8:=g7.put (b:=tb) (T:=62) 3 rfl 3 (.slice fa s.bU.length fc)
    have Q0:Hid ((w4.setCell ⟨tb,3,none⟩ (.slice fa s.bU.length fc)).heap[tb]?=some (.cells #[.int .i64 s.gen,.slice pa s.ax.length pc,.slice va s.bN.length vc,.slice fa s.bU.length fc] 62 (0,0))):=Lib.hid (g8.block 3 rfl)
    have Q1:=Lib.hid (fG (g8.block 5 rfl))
    have G:=Lib.hid (g8.gp 5 rfl (xs:=[.int .i64 s.gen,.slice pa s.ax.length pc,.slice va s.bN.length vc,.slice fa s.bU.length fc]) (b:=w.heap.size) (C:=#[.int .i64 0,.slice none 0 0,.slice none 0 0,.slice none 0 0]) (T:=62) rfl)
    clear g7 g8 KF c3
    go_wp2_with (first | (refine wpList_load_row rfl 62 (.tmp 3) rfl tb rfl 62 _ (0,0) _ Q0.out Tryz.underlying62 rfl (by kernel_rfl) ?_) | (refine wpList_store_mid (op:=⟨none,Op.store 62 (.tmp 2) (.tmp 51),_,_,_,_⟩) (by rfl) 62 (.tmp 2) (.tmp 51) rfl w.heap.size 0 #[.int .i64 s.gen,.slice pa s.ax.length pc,.slice va s.bN.length vc,.slice fa s.bU.length fc] (by rfl) (by rfl) Q1.out (by kernel_rfl) (qG _ _ _ _ _ _ _ _ _ _) ?_))
    exact bodyPost_ret (results_cell_row Tryz.results34 _ _ w.heap.size 62 _ (0,0) _ rfl (G.out.block 5 rfl) Tryz.underlying62 rfl (by kernel_rfl)) rfl ⟨_,_,_,_,_,_,rfl,(In.lT (s:=s) (dm:=dm) (fm:=fm) mD.out (G.out.aI (R1:=[_,_,_,_,_,_,_,_,_,_]) [6,7,8,9,4,1,0] (by decide) rfl)).aI (R1:=[_,_,_,_]) [1,2,3,0] (by decide) rfl⟩
end
abbrev BI (v:Value) (l:List Fl):az:=ay 67 8 v l.length ((l.map ic).flatten)
theorem fU.lens {s:fP} (h:fU s):s.ax.length≤16∧s.bN.length≤16∧s.bU.length≤256:=⟨(mR h.ax).1,h.PS,h.eX⟩
section
variable {F0:List Nat} {w0 w:World} {R:List az} {sb:Nat} {s:fP}
theorem jA {A D G:Option Addr} {a d g:Nat} (i j k:Nat) (hb:R[i]?=some (gG (.slice A s.ax.length a) s.ax)) (hd:R[j]?=some (zq (.slice D s.bN.length d) s.bN)) (hf:R[k]?=some (BI (.slice G s.bU.length g) s.bU)):wY F0 w0 R s A D G:=
 ⟨fun w' h'=>by obtain⟨F,r⟩:=h'.get i hb;exact r.all,fun w' h'=>by obtain⟨F,r⟩:=h'.get j hd;exact r.all,fun w' h'=>by obtain⟨F,r⟩:=h'.get k hf;exact r.all⟩
theorem wY.more {A D G:Option Addr} (v:wY F0 w0 R s A D G) (X:az):wY F0 w0 (X::R) s A D G:=⟨fun w' h'=>v.ax w' h'.drop,fun w' h'=>v.bN w' h'.drop,fun w' h'=>v.bU w' h'.drop⟩
theorem DF (h:In F0 w0 w (iH sb s::R)):Calls Tryz.prog 138 #[pR sb] w fun e w'=>∃ v pv,e=.returned v∧In F0 w0 w' (ay 69 14 v (aM s).length (recsV pv (aM s))::gG pv s.ax::iH sb s::R):=by
 have hl:=h.ny.1.lens
 have K1:=Lib.hid (BH h)
 have HL:=Lib.hid hl
 clear h hl
 go_enter Tryz.func138,Tryz.ntmps138
 go_wp2_with fail
 refine K1.out.mono ?_
 rintro e w1 ⟨A,a,D,d,F,f,rfl,g⟩
 obtain⟨Fv,rv⟩:=g.get 0 rfl
 have K2:=Lib.hid (IC (a:=a) (d:=d) (f:=f) (jA 0 1 2 rfl rfl rfl) (fun e=>ay.Hy rv e) (Nat.le_trans HL.out.1 (by decide)) (Nat.le_trans HL.out.2.1 (by decide)) (Nat.le_trans HL.out.2.2 (by decide)) g)
 clear g rv K1
 go_wp2_with fail
 refine K2.out.mono ?_
 rintro e w2 ⟨v,pv,rfl,g2⟩
 have G:=Lib.hid (g2.aI (R1:=[_,_,_,_,_,_]) [0,1,5] (by decide) rfl)
 clear g2 K2
 go_wp2_with fail
 go_ret
 exact⟨_,_,rfl,G.out⟩
theorem FO (h:In F0 w0 w R) (i:Nat) (hA:R[i]?=some (iH sb s)):Calls Tryz.prog 138 #[pR sb] w fun e w'=>∃ v pv,e=.returned v∧In F0 w0 w' (ay 69 14 v (aM s).length (recsV pv (aM s))::gG pv s.ax::R):=by
 obtain⟨hi,e⟩:=List.getElem?_eq_some_iff.1 hA
 have hp:R.Perm (iH sb s::(R.take i++R.drop (i+1))):=by
  conv=>lhs;rw [← List.take_append_drop i R,List.drop_eq_getElem_cons hi,e]
  exact List.perm_middle
 refine (DF (h.perm hp)).mono ?_
 rintro e w' ⟨v,pv,rfl,g⟩
 exact⟨v,pv,rfl,g.perm (List.Perm.cons _ (List.Perm.cons _ hp.symm))⟩
end
end Go.Proofs.YtogclkhpbjfadaaGreat
