/- Rows.StoreRefusesSaid -/
import Derived.Test.YtpmmiljakbojaaaGreatRF3
import Derived.StillTailTactics
import Derived.Sort.Grow
import Derived.Deep.Draws
import Derived.Test.YtpmmiljakbojaaaGreatRF23
import Derived.Test.YtpmmiljakbojaaaGreatShelfF
import Derived.Shelf.SlSortCmp.NoneTotal
import Derived.Test.YtpmmiljakbojaaaGreatRF17
namespace Go.Proofs.YtpmmiljakbojaaaGreat
open Go.RowKit
open Go.RowKit Go.Shelf Go.Sort
open Go.Maps (Keyed)
open Go.RowKit Go.Shelf
set_option linter.unusedVariables false
set_option maxHeartbeats 64000000
set_option maxRecDepth 100000
def cmpI (a b:Int):Int:=if a < b then -1 else if b < a then 1 else 0
theorem cmp_cases (a b:Int):(a < b∧cmpI a b=-1)∨(decide (a < b)=false∧b < a∧cmpI a b=1)∨(decide (a < b)=false∧decide (b < a)=false∧cmpI a b=0):=by
 unfold cmpI
 by_cases h:a < b
 ·left;simp [h]
 ·right
  by_cases h2:b < a
  ·left;simp [h,h2]
  ·right;simp [h,h2]
theorem cmp_u32 (a b:Int) (w:World):Calls Tryz.prog 115 #[.int .u32 a,.int .u32 b] w fun e w'=>e=.returned (.int .i64 (cmpI a b))∧w'=w:=by
 rcases cmp_cases a b with ⟨h,e⟩|⟨h,h2,e⟩|⟨h,h2,e⟩
 all_goals
  rw [e]
  clear e
  go_enter Tryz.func115,Tryz.ntmps115
  go_wp2
  go_ret
  exact⟨rfl,rfl⟩
theorem cmp_int (a b:Int) (w:World):Calls Tryz.prog 116 #[.int .i64 a,.int .i64 b] w fun e w'=>e=.returned (.int .i64 (cmpI a b))∧w'=w:=by
 rcases cmp_cases a b with ⟨h,e⟩|⟨h,h2,e⟩|⟨h,h2,e⟩
 all_goals
  rw [e]
  clear e
  go_enter Tryz.func116,Tryz.ntmps116
  go_wp2
  go_ret
  exact⟨rfl,rfl⟩
def orI (l:List Int):Int:=(l.find? (fun x=>x != 0)).getD 0
def OrRel (l:List Int) (v k:Value):Prop:=∃ j:Nat,k=.int .i64 j∧j≤l.length∧∀ i x,i < j→l[i]?=some x→x=0
theorem or_here {l:List Int} {j:Nat} {x:Int} (hz:∀ i y,i < j→l[i]?=some y→y=0) (hx:l[j]?=some x) (h:x≠0):orI l=x:=by
 induction l generalizing j with
 | nil=>simp at hx
 | cons y r ih=>
  cases j with
  | zero=>simp at hx;subst hx;simp [orI,h]
  | succ j=>
   have:y=0:=hz 0 y (by omega) rfl
   subst this
   have:=ih (j:=j) (fun i y hi hy=>hz (i+1) y (by omega) (by simpa using hy)) (by simpa using hx)
   simpa [orI] using this
theorem or_none {l:List Int} (hz:∀ i y,i < l.length→l[i]?=some y→y=0):orI l=0:=by
 induction l with
 | nil=>rfl
 | cons y r ih=>
  have:y=0:=hz 0 y (by simp) rfl
  subst this
  have:=ih (fun i y hi hy=>hz (i+1) y (by simpa using hi) (by simpa using hy))
  simpa [orI] using this
theorem cmp_or (g:Nat) (l:List Int) (hl:l.length≤1000) (w:World) (hc:∀ j x,l[j]?=some x→w.cell? ⟨g,j,none⟩=some (.int .i64 x)) (cap:Nat) (hcap:l.length≤cap) (hm:cap≤maxLen) :
  Calls Tryz.prog 114 #[.slice (some ⟨g,0,none⟩) l.length cap] w fun e w'=>e=.returned (.int .i64 (orI l))∧w'=w:=by
 have HC:=Lib.hid hc
 clear hc
 go_enter Tryz.func114,Tryz.ntmps114
 go_wp2
 go_loop [5,8] (OrRel l) (fun _ k=>l.length - (intOf k).toNat)
 case atStart=>exact⟨0,rfl,Nat.zero_le _,fun i x hi=>by omega⟩
 case round=>
  obtain⟨j,rfl,hj,hz⟩:=hrel
  have HZ:=Lib.hid hz
  clear hz
  by_cases hlt:j < l.length
  ·obtain⟨x,hx⟩:∃ x,l[j]?=some x:=⟨l[j],List.getElem?_eq_getElem hlt⟩
   have c0:=HC.out j x hx
   have hlt':(j:Int) < (l.length:Int):=by omega
   have HX:=Lib.hid hx
   clear hx
   by_cases h0:x=0
   ·subst h0
    go_wp2
    go_round
    case rel=>exact⟨j+1,by congr 1,by omega,fun i y hi hy=>by
     by_cases e:i=j
     ·subst e;rw [HX.out] at hy;cases hy;rfl
     ·exact HZ.out i y (by omega) hy⟩
    case measure=>simp [intOf];omega
   ·have HO:Hid (orI l=x):=Lib.hid (or_here HZ.out HX.out h0)
    have hne:(x != 0)=true:=by simpa using h0
    go_wp2
    go_ret
    refine⟨?_,rfl⟩
    rw [HO.out];rfl
  ·have hge:(l.length:Int)≤(j:Int):=by omega
   have HO:Hid (orI l=0):=Lib.hid (or_none (fun i y hi hy=>HZ.out i y (by omega) hy))
   go_wp2
   go_ret
   refine⟨?_,rfl⟩
   rw [HO.out];rfl
theorem or_lt (a b:Tup):decide (orI [cmpI a.src b.src,cmpI a.dst b.dst,cmpI a.proto b.proto,cmpI a.sport b.sport,cmpI a.dport b.dport] < 0)=ltT a b:=by
 rw [Bool.eq_iff_iff]
 simp only [ltT,Bool.or_eq_true,Bool.and_eq_true,decide_eq_true_eq]
 have key:∀ (x y:Int) (r:List Int),orI (cmpI x y::r) < 0↔(x < y∨(x=y∧orI r < 0)):=by
  intro x y r
  rcases cmp_cases x y with ⟨h,e⟩|⟨h,h2,e⟩|⟨h,h2,e⟩
  ·rw [e];simp [orI,h]
  ·rw [e];simp [orI];simp at h;omega
  ·rw [e]
   simp at h h2
   have:x=y:=by omega
   subst this
   simp [orI]
 rw [key,key,key,key,key]
 simp [orI]
def LessPost (b:Bool) (w:World) (e:Ending) (w':World):Prop:=e=.returned (.bool b)∧∃ q os,w'=Sort.grow (w.drewN q) os
theorem grow3 (w:World) (x y z:Obj):(((w.alloc x).alloc y).alloc z).drew=Sort.grow (w.drewN 1) (#[x]++#[y]++#[z]):=by
 rw [Sort.alloc_eq_grow,Sort.alloc_eq_grow,Sort.alloc_eq_grow,Sort.grow_grow,Sort.grow_grow];rfl
theorem cmp_or5 (x1 x2 x3 x4 x5:Int) (W:World):Calls Tryz.prog 114 #[.slice (some ⟨W.heap.size,0,none⟩) 5 5] (W.alloc (.cells #[.int .i64 x1,.int .i64 x2,.int .i64 x3,.int .i64 x4,.int .i64 x5] 3)).drew
  fun e w'=>e=.returned (.int .i64 (orI [x1,x2,x3,x4,x5]))∧w'=(W.alloc (.cells #[.int .i64 x1,.int .i64 x2,.int .i64 x3,.int .i64 x4,.int .i64 x5] 3)).drew:=
 cmp_or W.heap.size [x1,x2,x3,x4,x5] (by simp) _ (fun j x hx=>cell_of (C:=#[.int .i64 x1,.int .i64 x2,.int .i64 x3,.int .i64 x4,.int .i64 x5]) (T:=3) (fz:=(0,0)) (w:=(W.alloc (.cells #[.int .i64 x1,.int .i64 x2,.int .i64 x3,.int .i64 x4,.int .i64 x5] 3)).drew) (hp_alloc_new (w:=W)) (by
  match j,hx with
  | 0,hx=>simp at hx;subst hx;rfl
  | 1,hx=>simp at hx;subst hx;rfl
  | 2,hx=>simp at hx;subst hx;rfl
  | 3,hx=>simp at hx;subst hx;rfl
  | 4,hx=>simp at hx;subst hx;rfl
  | j+5,hx=>simp at hx)) 5 (by simp) (by unfold maxLen;omega)
theorem tup_less (a b:Tup) (w:World):Calls Tryz.prog 58 #[.agg (encT a),.agg (encT b)] w (LessPost (ltT a b) w):=by
 have HL:=Lib.hid (or_lt a b)
 have HP:=grow3 w (.cells (encT a) 34) (.cells (encT b) 34)
 have HP':=Lib.hid HP
 clear HP
 go_enter Tryz.func58,Tryz.ntmps58
 go_wp2_with fail
 have hA:((w.alloc (.cells (encT a) 34)).alloc (.cells (encT b) 34)).heap[w.heap.size]?=some (.cells (encT a) 34 (0,0)):=(hp_alloc_old (by simp)).trans hp_alloc_new
 have hB:((w.alloc (.cells (encT a) 34)).alloc (.cells (encT b) 34)).heap[w.heap.size+1]?=some (.cells (encT b) 34 (0,0)):=hp_alloc_at (by simp)
 generalize (w.alloc (.cells (encT a) 34)).alloc (.cells (encT b) 34)=W at *
 generalize w.heap.size+1=g2 at *
 generalize w.heap.size=g1 at *
 have a0:=cell_of (o:=0) hA rfl
 have a1:=cell_of (o:=1) hA rfl
 have a2:=cell_of (o:=2) hA rfl
 have a3:=cell_of (o:=3) hA rfl
 have a4:=cell_of (o:=4) hA rfl
 have b0:=cell_of (o:=0) hB rfl
 have b1:=cell_of (o:=1) hB rfl
 have b2:=cell_of (o:=2) hB rfl
 have b3:=cell_of (o:=3) hB rfl
 have b4:=cell_of (o:=4) hB rfl
 clear hA hB
 refine wp_region_still_tail 25 (by kernel_rfl) (by kernel_rfl) ?_
 simp only [List.take_succ_cons,List.take_zero,List.drop_succ_cons,List.drop_zero]
 change wpStill _ _ W.drew _ _ _
 repeat still_step
 still_call (cmp_u32 _ _ _)
 repeat still_step
 still_call (cmp_u32 _ _ _)
 repeat still_step
 still_call (cmp_int _ _ _)
 repeat still_step
 still_call (cmp_int _ _ _)
 repeat still_step
 still_call (cmp_int _ _ _)
 refine wpStill_nil ?_
 change wpList _ _ _ _ _ W.drew
 clear a0 a1 a2 a3 a4 b0 b1 b2 b3 b4
 have HO:=Lib.hid (fun W':World=>cmp_or5 (cmpI a.src b.src) (cmpI a.dst b.dst) (cmpI a.proto b.proto) (cmpI a.sport b.sport) (cmpI a.dport b.dport) W')
 generalize orI [cmpI a.src b.src,cmpI a.dst b.dst,cmpI a.proto b.proto,cmpI a.sport b.sport,cmpI a.dport b.dport]=r at *
 generalize cmpI a.src b.src=x1 at *
 generalize cmpI a.dst b.dst=x2 at *
 generalize cmpI a.proto b.proto=x3 at *
 generalize cmpI a.sport b.sport=x4 at *
 generalize cmpI a.dport b.dport=x5 at *
 go_wp2_with fail
 refine (HO.out _).mono ?_
 rintro e w2 ⟨rfl,rfl⟩
 go_wp2_with fail
 go_ret
 exact⟨by rw [← HL.out];rfl,1,_,HP'.out _⟩
def cfF (x y:Fl):Int:=if ltT x.t y.t=true then -1 else 1
theorem cfF_lt (x y:Fl):ltOf cfF x y=ltT x.t y.t:=by
 unfold ltOf cfF
 by_cases h:ltT x.t y.t=true <;> simp [h]
theorem swoF:SWO (ltOf cfF) where
 irrefl x:=by rw [cfF_lt];exact ltT_irrefl _
 trans x y z h1 h2:=by rw [cfF_lt] at *;exact ltT_trans h1 h2
 ntrans x y z h1 h2:=by
  rw [cfF_lt] at *
  cases h:ltT x.t z.t with
  | false=>rfl
  | true=>
   cases hyx:ltT y.t x.t with
   | true=>rw [ltT_trans hyx h] at h2;cases h2
   | false=>
    have e:=ltT_total h1 hyx
    rw [e] at h;rw [h] at h2;cases h2
abbrev encL (f:Fl):List Value:=(encF f).toList
def leF (x y:Fl):Bool:=!ltT y.t x.t
def sortF (L:List Fl):List Fl:=L.mergeSort leF
theorem sortF_perm (L:List Fl):(sortF L).Perm L:=List.mergeSort_perm _ _
theorem sortF_row (L:List Fl):(sortF L).Pairwise (fun x y=>ltT y.t x.t=false):=by
 have:=List.pairwise_mergeSort (le:=leF) (fun a b c h1 h2=>by
  simp only [leF,Bool.not_eq_true'] at *
  have:=swoF.ntrans c b a (by rw [cfF_lt];exact h2) (by rw [cfF_lt];exact h1)
  rwa [cfF_lt] at this) (fun a b=>by
  simp only [leF,Bool.or_eq_true,Bool.not_eq_true']
  cases h:ltT b.t a.t with
  | false=>left;rfl
  | true=>
   right
   cases h2:ltT a.t b.t with
   | false=>rfl
   | true=>have:=ltT_trans h h2;rw [ltT_irrefl] at this;cases this) L
 exact this.imp (fun h=>by simpa [leF] using h)
theorem sort_eq {L M:List Fl} (hp:M.Perm L) (hk:(L.map (·.t)).Nodup) (hs:M.Pairwise (fun x y=>ltT y.t x.t=false)):M=sortF L:=by
 have hp2:M.Perm (sortF L):=hp.trans (sortF_perm L).symm
 refine List.Perm.eq_of_pairwise (le:=fun a b:Fl=>ltT b.t a.t=false) (fun a b ha hb h1 h2=>?_) hs (sortF_row L) hp2
 have ht:a.t=b.t:=ltT_total h2 h1
 have ha':a∈L:=hp.mem_iff.1 ha
 have hb':b∈L:=(sortF_perm L).mem_iff.1 hb
 obtain⟨i,hi,rfl⟩:=List.mem_iff_getElem.1 ha'
 obtain⟨j,hj,rfl⟩:=List.mem_iff_getElem.1 hb'
 have:(L.map (·.t))[i]?=(L.map (·.t))[j]?:=by simp [hi,hj,ht]
 have:=(List.getElem?_inj (by simpa using hi) hk).1 this
 subst this;rfl
theorem sorted_list {d:Array Fl} (h:SortedIn (ltOf cfF) 0 d.size d):d.toList.Pairwise (fun x y=>ltT y.t x.t=false):=by
 rw [List.pairwise_iff_getElem]
 intro i j hi hj hij
 have:=h i j (Nat.zero_le _) hij (by simpa using hj)
 rw [cfF_lt,getElem!_pos d i (by simpa using hi),getElem!_pos d j (by simpa using hj)] at this
 simpa using this
theorem flatF_enc (L:List Fl):flatF L=(L.map encL).flatten:=rfl
theorem all_cmp (x y:Fl) (W:World):Calls Tryz.prog 57 #[.agg (encF x),.agg (encF y)] W fun e w'=>e=.returned (.int .i64 (cfF x y))∧∃ q os',w'=grow (W.drewN q) os':=by
 have HP:Hid (∀ q os,∃ q' os',grow (((W.alloc (.cells (encF x) 36)).alloc (.cells (encF y) 36)).drewN q) os=grow (W.drewN q') os'):=Lib.hid fun q os=>⟨q,_,by rw [Sort.alloc_eq_grow,Sort.alloc_eq_grow,Sort.grow_grow];show grow (grow (W.drewN q) _) os=_;rw [Sort.grow_grow]⟩
 have C1:=Lib.hid (fun w=>tup_less x.t y.t w)
 have HC:Hid (cfF x y=if ltT x.t y.t=true then -1 else 1):=Lib.hid rfl
 generalize cfF x y=r at *
 generalize ltT x.t y.t=b at *
 go_enter Tryz.func57,Tryz.ntmps57
 cases b
 ·obtain rfl:r=1:=by simpa using HC.out
  go_wp2_with fail
  refine (C1.out _).mono ?_
  rintro e w1 ⟨rfl,q,os,hw⟩
  have HW:=Lib.hid hw
  clear hw
  go_wp2_with fail
  go_ret
  exact⟨rfl,by rw [HW.out];exact HP.out q os⟩
 ·obtain rfl:r=-1:=by simpa using HC.out
  go_wp2_with fail
  refine (C1.out _).mono ?_
  rintro e w1 ⟨rfl,q,os,hw⟩
  have HW:=Lib.hid hw
  clear hw
  go_wp2_with fail
  go_ret
  exact⟨rfl,by rw [HW.out];exact HP.out q os⟩
theorem all_lays (blk off size:Nat) (w:World):CmpLays Tryz.prog 57 #[] encL 8 cfF blk off size w:=
 fun _ _ _ _ x y=>all_cmp x y _
theorem isAggF (w:World):(isAgg 36).run Tryz.prog w=.ok true w:=by kernel_rfl
theorem sizeOfF (w:World):(Go.sizeOf 36).run Tryz.prog w=.ok 8 w:=by kernel_rfl
theorem sort_call {w:World} {base g cap:Nat} {xs L:List Fl} (hrow:w.ownsRow base 36 8 (.slice (some ⟨g,0,none⟩) xs.length cap) xs.length (flatF xs)) (hp:xs.Perm L) (hL:L.length≤1000000) (hk:(L.map (·.t)).Nodup) :
  Calls Tryz.prog 112 #[.slice (some ⟨g,0,none⟩) xs.length cap,.func (.func 57) #[] #[]] w fun e w'=>e=.returned (.tuple #[])∧w'.ownsRow base 36 8 (.slice (some ⟨g,0,none⟩) xs.length cap) xs.length (flatF (sortF L))∧w.grownBy w' (some g):=by
 rcases hrow.2 with ⟨e,_⟩|⟨g',cap',cur,e,hbase,hgb,r1,r2,r3,r4⟩
 ·cases e
 cases e
 have hH:HoldsK encL 8 w g 0 xs.toArray:=holdsK_row (fun _=>rfl) (by omega) hgb (by simpa [flatF] using r4)
 have hsz:xs.length < 4611686018427387904:=by have:=hp.length_eq;omega
 have hcon:=AnyQ.slices_SortFunc Tryz.sortF 8 isAggF sizeOfF encL (fun _=>rfl) (fun x v hv=>by simp [encL] at hv;rcases hv with rfl | rfl | rfl | rfl | rfl | rfl | rfl | rfl <;> rfl) cfF swoF 57 #[] g 0 cap xs.toArray w
  (enters_of Tryz.func57 (by kernel_rfl) rfl) (all_lays g 0 xs.toArray.size w) hH (hp_lt hgb) (by simpa using hsz)
 refine (show Calls Tryz.prog 112 #[.slice (some ⟨g,0,none⟩) xs.length cap,.func (.func 57) #[] #[]] w _ from hcon).mono fun e w' ⟨he,d',n,os,hpm,hsd,hw⟩=>⟨he,?_,?_⟩
 ·have hds:d'.size=xs.length:=by have:=hpm.1;simpa using this
  have hd:d'.toList=sortF L:=by
   refine sort_eq ?_ hk (sorted_list (by rw [hds];simpa using hsd))
   have h3:=hpm.2.2
   simp only [List.size_toArray,← hds,Array.extract_size] at h3
   have:(xs.toArray.extract 0 d'.size).toList=xs:=by rw [hds];simp
   rw [this] at h3
   exact h3.trans hp
  rw [hw,flatF_enc,← hd]
  exact ownsRow_sortK (fun _=>rfl) (by omega) hds hbase hgb r1 r2 r3
 ·rw [hw];exact grownBy_sortK d'
theorem srt_t {L:List Fl} (h:SrtF L):(L.map (·.t)).Nodup:=by
 unfold List.Nodup
 rw [List.pairwise_map]
 refine List.Pairwise.imp (fun {x y} hl e=>?_) h
 rw [e,ltT_irrefl] at hl;cases hl
theorem sorted_callF (Bm bm:Nat) (L:List Fl) (w:World) (hL:L.length≤1000000) (hBm:Bm < w.heap.size) (hm:w.cell? ⟨Bm,0,none⟩=some (.map (some bm))) (hM:MapR Tryz.prog 34 w bm (tabR svT svF L) L.length) (hs:SrtF L) :
  Calls Tryz.prog 55 #[.func (.func 113) #[] #[.pointer (some ⟨Bm,0,none⟩)],.func (.func 57) #[] #[]] w fun e w'=>∃ v,e=.returned v∧w'.ownsRow w.heap.size 36 8 v L.length (flatF (sortF L))∧Below w.heap.size w w':=by
 have hk:=srt_t hs
 have HC:=Lib.hid (collect_call Bm bm L w hL hBm hm hM (nodup_svT hs))
 have HK:=Lib.hid hk
 have HL:=Lib.hid hL
 clear hM hm hk hs hBm hL
 go_enter Tryz.func55,Tryz.ntmps55
 go_wp2_with fail
 refine HC.out.mono ?_
 rintro e w1 ⟨v,xs,rfl,hp,hrow,hb⟩
 have hlen:xs.length=L.length:=hp.length_eq
 have HB:=Lib.hid hb
 rcases hrow.2 with ⟨rfl,hz⟩|⟨g,cap,cur,rfl,hbase,hgb,r1,r2,r3,r4⟩
 ·have hL0:L=[]:=List.length_eq_zero_iff.1 (by omega)
  subst hL0
  have HR:Hid (w1.ownsRow w.heap.size 36 8 (.slice none 0 0) ([]:List Fl).length (flatF (sortF []))):=Lib.hid (by
   have e:flatF xs=flatF (sortF []):=by
    rw [List.length_eq_zero_iff.1 hz];simp [sortF]
   rw [← e]
   have e2:([]:List Fl).length=xs.length:=by simp [hz]
   rw [e2];exact hrow)
  have cN:=AnyF.slices_SortFunc_none (P:=Tryz.prog) Tryz.sortF none 0 (.func (.func 57) #[] #[]) w1
  have CN:Hid (Calls Tryz.prog 112 #[.slice none 0 0,.func (.func 57) #[] #[]] w1 fun e w'=>e=.returned (.tuple #[])∧w'=w1):=Lib.hid cN
  clear hrow hp hb hlen hz cN
  go_wp2_with fail
  refine CN.out.mono ?_
  rintro e w2 ⟨rfl,rfl⟩
  go_wp2_with fail
  go_ret
  exact⟨_,rfl,HR.out,HB.out⟩
 ·have CS:=Lib.hid (sort_call hrow hp HL.out HK.out)
  have HG:=Lib.hid hbase
  have HLEN:=Lib.hid hlen
  clear hrow hp hb hlen hgb r1 r2 r3 r4 hbase
  go_wp2_with fail
  refine CS.out.mono ?_
  rintro e w2 ⟨rfl,hr,hg⟩
  have HR:=Lib.hid hr
  have HG2:=Lib.hid hg
  clear hr hg CS
  go_wp2_with fail
  go_ret
  exact⟨_,rfl,by rw [← HLEN.out];exact HR.out,HB.out.grown HG2.out HB.out.size (fun j e=>by cases e;exact HG.out)⟩
theorem sortF_srt {L:List Fl} (h:SrtF L):sortF L=L:=by
 refine (sort_eq (List.Perm.refl L) (srt_t h) (List.Pairwise.imp (fun {x y} hl=>?_) h)).symm
 cases e:ltT y.t x.t with
 | false=>rfl
 | true=>have:=ltT_trans hl e;rw [ltT_irrefl] at this;cases this
section
variable {F0:List Nat} {w0 w:World} {R:List Asrt} {fm:Nat} {L:List Fl}
theorem o_flsort (h:In F0 w0 w R) (i:Nat) (hA:R[i]?=some (SFM fm L)) (hs:SrtF L) (hL:L.length≤1000000) :
  Calls Tryz.prog 55 #[.func (.func 113) #[] #[.pointer (some ⟨w.heap.size,0,none⟩)],.func (.func 57) #[] #[]] (w.alloc (.cells #[.map (some fm)] 114)) fun e w'=>∃ a c,e=.returned (.slice a L.length c)∧In F0 w0 w' (RowA 36 8 (.slice a L.length c) L.length ((L.map encFs).flatten)::R):=by
 have h2:=h.alloc (.cells #[.map (some fm)] 114)
 obtain⟨Fm,hbm⟩:=h2.get i hA
 refine (sorted_callF w.heap.size fm L _ hL (by simp) (cell_of hp_alloc_new rfl) hbm.2 hs).mono fun e w' ⟨v,he,hrow,hbel⟩=>?_
 rw [sortF_srt hs] at hrow
 obtain⟨hr1,hr2⟩:=row_new hrow
 obtain⟨a,c,rfl,-,-,-⟩:=hr1.shape
 exact⟨a,c,he,In.below h2 hbel (RowA.framed _ _ _ _ _) hr1 hr2⟩
end
section
variable {F0:List Nat} {w0 w:World} {R:List Asrt}
theorem st4_all (g:Int) (A:Option Addr) (n c:Nat):(#[.int .i64 g,.slice A n c,.slice none 0 0,.slice none 0 0]:Array Value).all (·.oneCell')=true:=by simp [Value.oneCell']
theorem st4_all2 (g:Int) (A B C:Option Addr) (n c m d k e:Nat):(#[.int .i64 g,.slice A n c,.slice B m d,.slice C k e]:Array Value).all (·.oneCell')=true:=by simp [Value.oneCell']
theorem sd_get1 {dm:Nat} {M:List (Int×Int)} (h:In F0 w0 w R) (i:Nat) (hA:R[i]?=some (SDM dm M)) (hs:SrtD M) {x:Int×Int} (hx:x∈M) (hb:(Lit.int .i64 x.1).wf=true):(Instr.lookup 113 (.map (some dm)) (.int .i64 x.1) false).run Tryz.prog w=.ok (.int .i64 x.2) w:=by
 rcases tab_look h i hA intLawS Tryz.underlying113 (z:=.int .i64 0) (by kernel_rfl) (Maps.keyOf_int_mk Tryz.underlying3 hb) false with ⟨y,hy,e,hr⟩|⟨hn,hr⟩
 ·have:y=x:=ek_inj (nodup_sdK hs) hy hx e
  rw [this] at hr;exact hr
 ·exact absurd rfl (hn x hx)
def ViewRl (s:StD) (sb tb dm fm b2:Nat) (a:Option Addr) (c':Nat) (pa:Option Addr) (pc:Nat) (ka:Option Addr) (kc:Nat) (F0:List Nat) (w0:World) (R:List Asrt) (i:Value) (wr:World):Prop:=
 ∃ (k:Nat) (va:Option Addr) (vc:Nat),k≤s.drs.length∧i=.int .i64 k∧In F0 w0 wr (RowA 125 2 (.slice va k vc) k (((s.drs.take k).map encDr).flatten)::RowA 3 1 (.slice ka s.drs.length kc) s.drs.length ((s.drs.map (·.1)).map encZ)::Cells tb #[.int .i64 s.gen,.slice pa s.bks.length pc,.slice va k vc,.slice none 0 0] 59::BkR (.slice pa s.bks.length pc) s.bks::Cells b2 #[.int .i64 0,.slice none 0 0,.slice none 0 0,.slice none 0 0] 59::Cells sb (stC s (.slice a s.bks.length c') dm fm) 116::BkR (.slice a s.bks.length c') s.bks::SDM dm s.drs::SFM fm s.fls::R)
def ViewCut (s:StD) (sb dm fm b2:Nat) (a:Option Addr) (c':Nat) (F0:List Nat) (w0:World) (R:List Asrt) (x3:Value) (wx:World):Prop:=
 ∃ tb A ac,x3=.pointer (some ⟨tb,0,none⟩)∧In F0 w0 wx (Cells tb #[.int .i64 s.gen,.slice A s.bks.length ac,.slice none 0 0,.slice none 0 0] 59::BkR (.slice A s.bks.length ac) s.bks::Cells b2 #[.int .i64 0,.slice none 0 0,.slice none 0 0,.slice none 0 0] 59::Cells sb (stC s (.slice a s.bks.length c') dm fm) 116::BkR (.slice a s.bks.length c') s.bks::SDM dm s.drs::SFM fm s.fls::R)
theorem o_stview {sb:Nat} {s:StD} (h:In F0 w0 w (StA sb s::R)):Calls Tryz.prog 21 #[pR sb] w fun e w'=>∃ A a D d F f,e=.returned (agSt s A a D d F f)∧In F0 w0 w' (BkR (.slice A s.bks.length a) s.bks::DrR (.slice D s.drs.length d) s.drs::RowA 36 8 (.slice F s.fls.length f) s.fls.length ((s.fls.map encFs).flatten)::StA sb s::R):=by
 obtain⟨hok,dm,fm,a,c',g0⟩:=h.stOpen
 have hlen:=(gensMay_len hok.bks).1
 have g1:=g0.cells #[.int .i64 0,.slice none 0 0,.slice none 0 0,.slice none 0 0] 59
 have g2:=g1.cells #[.int .i64 0,.slice none 0 0,.slice none 0 0,.slice none 0 0] 59
 simp only [World.size_alloc] at g2
 obtain⟨Fv,rv⟩:=(g1.drewN 1).get 2 rfl
 obtain⟨Fy,ry⟩:=(g2.drewN 1).get 3 rfl
 have K1:Hid (Calls Tryz.prog 52 #[.slice a s.bks.length c'] (w.alloc (.cells #[.int .i64 0,.slice none 0 0,.slice none 0 0,.slice none 0 0] 59)).drew fun e w'=>∃ v,e=.returned v∧In F0 w0 w' (BkR v s.bks::Cells w.heap.size #[.int .i64 0,.slice none 0 0,.slice none 0 0,.slice none 0 0] 59::Cells sb (stC s (.slice a s.bks.length c') dm fm) 116::BkR (.slice a s.bks.length c') s.bks::SDM dm s.drs::SFM fm s.fls::R)):=Lib.hid (o_bkclone (g1.drewN 1) (fun e=>RowA.noc rv e) rv.all (Nat.le_trans hlen (by decide)))
 have K2:Hid (Calls Tryz.prog 52 #[.slice a s.bks.length c'] ((w.alloc (.cells #[.int .i64 0,.slice none 0 0,.slice none 0 0,.slice none 0 0] 59)).alloc (.cells #[.int .i64 0,.slice none 0 0,.slice none 0 0,.slice none 0 0] 59)).drew fun e w'=>∃ v,e=.returned v∧In F0 w0 w' (BkR v s.bks::Cells (w.heap.size+1) #[.int .i64 0,.slice none 0 0,.slice none 0 0,.slice none 0 0] 59::Cells w.heap.size #[.int .i64 0,.slice none 0 0,.slice none 0 0,.slice none 0 0] 59::Cells sb (stC s (.slice a s.bks.length c') dm fm) 116::BkR (.slice a s.bks.length c') s.bks::SDM dm s.drs::SFM fm s.fls::R)):=Lib.hid (o_bkclone (g2.drewN 1) (fun e=>RowA.noc ry e) ry.all (Nat.le_trans hlen (by decide)))
 have HY0:Hid ((w.alloc (.cells #[.int .i64 0,.slice none 0 0,.slice none 0 0,.slice none 0 0] 59)).cell? ⟨sb,0,none⟩=some (.int .i64 s.gen)∧(w.alloc (.cells #[.int .i64 0,.slice none 0 0,.slice none 0 0,.slice none 0 0] 59)).cell? ⟨sb,1,none⟩=some (.slice a s.bks.length c')):=Lib.hid ⟨cell_of (g1.block 1 rfl) rfl,cell_of (g1.block 1 rfl) rfl⟩
 have HY1:Hid (((w.alloc (.cells #[.int .i64 0,.slice none 0 0,.slice none 0 0,.slice none 0 0] 59)).alloc (.cells #[.int .i64 0,.slice none 0 0,.slice none 0 0,.slice none 0 0] 59)).cell? ⟨sb,0,none⟩=some (.int .i64 s.gen)∧((w.alloc (.cells #[.int .i64 0,.slice none 0 0,.slice none 0 0,.slice none 0 0] 59)).alloc (.cells #[.int .i64 0,.slice none 0 0,.slice none 0 0,.slice none 0 0] 59)).cell? ⟨sb,1,none⟩=some (.slice a s.bks.length c')):=Lib.hid ⟨cell_of (g2.block 2 rfl) rfl,cell_of (g2.block 2 rfl) rfl⟩
 have HOK:=Lib.hid hok
 clear h hok g0 g1 g2 rv ry hlen
 go_enter Tryz.func21,Tryz.ntmps21
 go_upto_region 3 with fail
 go_cut [3] (ViewCut s sb dm fm w.heap.size a c' F0 w0 R)
 case first=>
  refine e_start (fun w'=>w'.cell? ⟨sb,0,none⟩=some (.int .i64 s.gen)∧w'.cell? ⟨sb,1,none⟩=some (.slice a s.bks.length c')) (by kernel_rfl) HY0.out (fun hS=>?_)
  refine e_take (i:=0) (v:=?_) rfl (by kernel_rfl) (fun _ _ _ h=>h) (by rfl) ?_ hS ?_
  rotate_left
  ·(intro w hSw;(try dsimp only at hSw);go_simp;try with_reducible rfl)
  try simp only [Act.put,List.setIfInBounds_toArray,List.set_cons_zero,List.set_cons_succ]
  refine e_take (i:=1) (v:=?_) rfl (by kernel_rfl) (fun _ _ _ h=>h) (by rfl) ?_ hS ?_
  rotate_left
  ·(intro w hSw;(try dsimp only at hSw);go_simp;try with_reducible rfl)
  try simp only [Act.put,List.setIfInBounds_toArray,List.set_cons_zero,List.set_cons_succ]
  refine e_take (i:=2) (v:=?_) rfl (by kernel_rfl) (fun _ _ _ h=>h) (by rfl) ?_ hS ?_
  rotate_left
  ·(intro w hSw;(try dsimp only at hSw);go_simp;try with_reducible rfl)
  try simp only [Act.put,List.setIfInBounds_toArray,List.set_cons_zero,List.set_cons_succ]
  refine e_take (i:=3) (v:=?_) rfl (by kernel_rfl) (fun _ _ _ h=>h) (by rfl) ?_ hS ?_
  rotate_left
  ·(intro w hSw;(try dsimp only at hSw);go_simp;try with_reducible rfl)
  try simp only [Act.put,List.setIfInBounds_toArray,List.set_cons_zero,List.set_cons_succ]
  refine e_take (i:=4) (v:=?_) rfl (by kernel_rfl) (fun _ _ _ h=>h) (by rfl) ?_ hS ?_
  rotate_left
  ·(intro w hSw;(try dsimp only at hSw);go_simp;try with_reducible rfl)
  try simp only [Act.put,List.setIfInBounds_toArray,List.set_cons_zero,List.set_cons_succ]
  refine e_take (i:=5) (v:=?_) rfl (by kernel_rfl) (fun _ _ _ h=>h) (by rfl) ?_ hS ?_
  rotate_left
  ·(intro w hSw;(try dsimp only at hSw);go_simp;try with_reducible rfl)
  try simp only [Act.put,List.setIfInBounds_toArray,List.set_cons_zero,List.set_cons_succ]
  refine e_take (i:=6) (v:=?_) rfl (by kernel_rfl) (fun _ _ _ h=>h) (by rfl) ?_ hS ?_
  rotate_left
  ·(intro w hSw;(try dsimp only at hSw);go_simp;try with_reducible rfl)
  try simp only [Act.put,List.setIfInBounds_toArray,List.set_cons_zero,List.set_cons_succ]
  refine e_take (i:=7) (v:=?_) rfl (by kernel_rfl) (fun _ _ _ h=>h) (by rfl) ?_ hS ?_
  rotate_left
  ·(intro w hSw;(try dsimp only at hSw);go_simp;try with_reducible rfl)
  try simp only [Act.put,List.setIfInBounds_toArray,List.set_cons_zero,List.set_cons_succ]
  refine e_two (i:=8) (j:=10) rfl rfl (by kernel_rfl) (fun K' hK=>?_) (fun K' hK=>?_)
  ·go_simp
   go_at_call 52
   refine K1.out.mono ?_
   rintro e w2 ⟨v,rfl,g3⟩
   obtain⟨Fz,rz⟩:=g3.get 0 rfl
   obtain⟨pa,pc,rfl,-,-,-⟩:=RowA.shape rz
   have hz:w2.cell? ⟨sb,0,none⟩=some (.int .i64 s.gen)∧w2.cell? ⟨sb,1,none⟩=some (.slice a s.bks.length c'):=⟨cell_of (g3.block 2 rfl) rfl,cell_of (g3.block 2 rfl) rfl⟩
   have G3:=Lib.hid g3
   clear g3 hS rz
   refine hK.out _ _ hz (fun hS=>?_)
   clear hK K'
   try simp only [Act.put,List.setIfInBounds_toArray,List.set_cons_zero,List.set_cons_succ]
   refine e_take (i:=9) (v:=?_) rfl (by kernel_rfl) (fun _ _ _ h=>h) (by rfl) ?_ hS ?_
   rotate_left
   ·(intro w hSw;(try dsimp only at hSw);go_simp;try with_reducible rfl)
   try simp only [Act.put,List.setIfInBounds_toArray,List.set_cons_zero,List.set_cons_succ]
   have G8:=Lib.hid (G3.out.cells #[.int .i64 s.gen,.slice pa s.bks.length pc,.slice none 0 0,.slice none 0 0] 59)
   refine e_pin (i:=10) rfl (by kernel_rfl) (fun K' hK=>?_)
   go_simp
   refine hK.out _ _ (by have h9:=(G3.out.cells #[.int .i64 0,.slice none 0 0,.slice none 0 0,.slice none 0 0] 59);exact⟨cell_of (h9.block 3 rfl) rfl,cell_of (h9.block 3 rfl) rfl⟩) (fun hS=>?_)
   clear hK K'
   try simp only [Act.put,List.setIfInBounds_toArray,List.set_cons_zero,List.set_cons_succ]
   refine e_last (i:=11) rfl (by kernel_rfl) (fun K' hK=>?_)
   go_simp
   refine hK.out _ _ ?_
   clear hK K'
   go_wp2_with fail
   go_meet
   exact⟨_,_,_,rfl,G8.out⟩
  ·go_simp
   clear hS
   refine hK.out _ _ HY1.out (fun hS=>?_)
   clear hK K'
   try simp only [Act.put,List.setIfInBounds_toArray,List.set_cons_zero,List.set_cons_succ]
   refine e_pin (i:=8) rfl (by kernel_rfl) (fun K' hK=>?_)
   go_simp
   go_at_call 52
   refine K2.out.mono ?_
   rintro e w2 ⟨v,rfl,g3⟩
   obtain⟨Fz,rz⟩:=g3.get 0 rfl
   obtain⟨pa,pc,rfl,-,-,-⟩:=RowA.shape rz
   have hz:w2.cell? ⟨sb,0,none⟩=some (.int .i64 s.gen)∧w2.cell? ⟨sb,1,none⟩=some (.slice a s.bks.length c'):=⟨cell_of (g3.block 3 rfl) rfl,cell_of (g3.block 3 rfl) rfl⟩
   have ht:=there_of (g3.block 1 rfl)
   have g8:=g3.setFull 1 rfl (xs:=[.int .i64 s.gen,.slice pa s.bks.length pc,.slice none 0 0,.slice none 0 0]) (b:=w.heap.size+1) (C:=#[.int .i64 0,.slice none 0 0,.slice none 0 0,.slice none 0 0]) (T:=59) rfl
   have G8:=Lib.hid g8
   clear g3 g8 hS rz
   refine hK.out _ _ hz (fun hS=>?_)
   clear hK K'
   try simp only [Act.put,List.setIfInBounds_toArray,List.set_cons_zero,List.set_cons_succ]
   refine e_take (i:=9) (v:=?_) rfl (by kernel_rfl) (fun _ _ _ h=>h) (by rfl) ?_ hS ?_
   rotate_left
   ·(intro w hSw;(try dsimp only at hSw);go_simp;try with_reducible rfl)
   try simp only [Act.put,List.setIfInBounds_toArray,List.set_cons_zero,List.set_cons_succ]
   refine e_last (i:=11) rfl (by kernel_rfl) (fun K' hK=>?_)
   rw [if_pos (by rfl)]
   refine wp_store_mid 59 (.tmp 3) (.tmp 18) rfl (w.heap.size+1) 0 #[.int .i64 s.gen,.slice pa s.bks.length pc,.slice none 0 0,.slice none 0 0] (by rfl) (by rfl) ht (by kernel_rfl) (st4_all _ _ _ _) ?_
   refine hK.out _ _ ?_
   clear hK K'
   go_wp2_with fail
   go_meet
   exact⟨_,_,_,rfl,G8.out.sel2 (R1:=[_,_,_]) [1,0,2] (by decide) rfl⟩
 case rest=>
  obtain⟨tb,pa,pc,rfl,hio⟩:=hcut
  have HD:Hid (s.drs.length≤16∧SrtD s.drs∧∀ x∈s.drs,(Lit.int .i64 x.1).wf=true):=Lib.hid ⟨HOK.out.dlen,HOK.out.dsort,fun x hx=>by have:=(HOK.out.dmay x hx).1;exact wf_i64 (by omega) (by omega)⟩
  have KS:=Lib.hid (o_keysS hio 5 rfl HOK.out.dsort (Nat.le_trans HOK.out.dlen (by decide)))
  have c2:wc.cell? ⟨sb,2,none⟩=some (.map (some dm)):=cell_of (hio.block 3 rfl) rfl
  clear hio K1 K2 HY0 HY1
  go_wp2_with fail
  refine (keysS_call _ _).mono ?_
  rintro e w1 ⟨rfl,rfl⟩
  go_wp2_with fail
  refine KS.out.mono ?_
  rintro e w2 ⟨ka,kc,rfl,g5⟩
  have HR:Hid (ViewRl s sb tb dm fm w.heap.size a c' pa pc ka kc F0 w0 R (.int .i64 0) w2):=Lib.hid ⟨0,none,0,Nat.zero_le _,rfl,(g5.rownil 125 2)⟩
  clear g5 KS c2
  go_wp2_with fail
  go_loopw [26] (ViewRl s sb tb dm fm w.heap.size a c' pa pc ka kc F0 w0 R) (fun k _=>s.drs.length - (intOf k).toNat)
  case atStart=>exact HR.out
  case round=>
   obtain⟨k,va,vc,hk,rfl,hio⟩:=hrel
   clear HR
   by_cases hlt:k < s.drs.length
   ·obtain⟨x,hx⟩:∃ x,s.drs[k]?=some x:=⟨s.drs[k],List.getElem?_eq_getElem hlt⟩
    obtain⟨Fs,hs⟩:=hio.get 1 rfl
    obtain⟨ba,rfl,c0⟩:=hs.at.2 k (.int .i64 x.1) (by simp [hx,encZ])
    have hlt':(k:Int) < (s.drs.length:Int):=Int.ofNat_lt.2 hlt
    have hk16:=HD.out.1
    have hw2:wrap64 ((k:Int)+1)=(k:Int)+1:=by unfold wrap64;omega
    have hdr:=hio.drewN 1
    change In F0 w0 wr.drew _ at hdr
    have HS:Hid (∀ w' R',In F0 w0 w' (R'++[])→True):=Lib.hid fun _ _ _=>trivial
    have HX:=Lib.hid hx
    have HIO:=Lib.hid hio
    have HWF:=Lib.hid (HD.out.2.2 x (List.mem_of_getElem? hx))
    have m0:=sd_get1 hdr 7 rfl HD.out.2.1 (List.mem_of_getElem? hx) HWF.out
    have H8:=Lib.hid (hdr.cells #[.int .i64 x.1,.int .i64 x.2] 125)
    have HY:Hid (wr.drew.cell? ⟨tb,2,none⟩=some (.slice va k vc)∧wr.drew.cell? ⟨sb,2,none⟩=some (.map (some dm))∧(Instr.lookup 113 (.map (some dm)) (.int .i64 x.1) false).run Tryz.prog wr.drew=.ok (.int .i64 x.2) wr.drew):=Lib.hid ⟨cell_of (hdr.block 2 rfl) rfl,cell_of (hdr.block 5 rfl) rfl,m0⟩
    have HY8:Hid ((wr.drew.alloc (.cells #[.int .i64 x.1,.int .i64 x.2] 125)).cell? ⟨tb,2,none⟩=some (.slice va k vc)∧(wr.drew.alloc (.cells #[.int .i64 x.1,.int .i64 x.2] 125)).cell? ⟨sb,2,none⟩=some (.map (some dm))∧(Instr.lookup 113 (.map (some dm)) (.int .i64 x.1) false).run Tryz.prog (wr.drew.alloc (.cells #[.int .i64 x.1,.int .i64 x.2] 125))=.ok (.int .i64 x.2) (wr.drew.alloc (.cells #[.int .i64 x.1,.int .i64 x.2] 125))):=Lib.hid ⟨cell_of (H8.out.block 3 rfl) rfl,cell_of (H8.out.block 6 rfl) rfl,sd_get1 H8.out 8 rfl HD.out.2.1 (List.mem_of_getElem? hx) HWF.out⟩
    have HK:Hid (k≤16):=Lib.hid (by have:=HD.out.1;omega)
    clear hio hdr hs hx hk hlt m0 HS hk16
    go_upto_region 7 with fail
    refine e_start (fun w'=>w'.cell? ⟨tb,2,none⟩=some (.slice va k vc)∧w'.cell? ⟨sb,2,none⟩=some (.map (some dm))∧(Instr.lookup 113 (.map (some dm)) (.int .i64 x.1) false).run Tryz.prog w'=.ok (.int .i64 x.2) w') (by kernel_rfl) HY.out (fun hS=>?_)
    refine e_take (i:=0) (v:=?_) rfl (by kernel_rfl) (fun _ _ _ h=>h) (by rfl) ?_ hS ?_
    rotate_left
    ·(intro w hSw;(try dsimp only at hSw);go_simp;try with_reducible rfl)
    try simp only [Act.put,List.setIfInBounds_toArray,List.set_cons_zero,List.set_cons_succ]
    refine e_take (i:=1) (v:=?_) rfl (by kernel_rfl) (fun _ _ _ h=>h) (by rfl) ?_ hS ?_
    rotate_left
    ·(intro w hSw;(try dsimp only at hSw);go_simp;try with_reducible rfl)
    try simp only [Act.put,List.setIfInBounds_toArray,List.set_cons_zero,List.set_cons_succ]
    refine e_take (i:=2) (v:=?_) rfl (by kernel_rfl) (fun _ _ _ h=>h) (by rfl) ?_ hS ?_
    rotate_left
    ·(intro w hSw;(try dsimp only at hSw);go_simp;try with_reducible rfl)
    try simp only [Act.put,List.setIfInBounds_toArray,List.set_cons_zero,List.set_cons_succ]
    refine e_take (i:=3) (v:=?_) rfl (by kernel_rfl) (fun _ _ _ h=>h) (by rfl) ?_ hS ?_
    rotate_left
    ·(intro w hSw;(try dsimp only at hSw);go_simp;try with_reducible rfl)
    try simp only [Act.put,List.setIfInBounds_toArray,List.set_cons_zero,List.set_cons_succ]
    refine e_take (i:=4) (v:=?_) rfl (by kernel_rfl) (fun _ _ _ h=>h) (by rfl) ?_ hS ?_
    rotate_left
    ·(intro w hSw;(try dsimp only at hSw);go_simp;try with_reducible rfl)
    try simp only [Act.put,List.setIfInBounds_toArray,List.set_cons_zero,List.set_cons_succ]
    refine e_take (i:=5) (v:=?_) rfl (by kernel_rfl) (fun _ _ _ h=>h) (by rfl) ?_ hS ?_
    rotate_left
    ·(intro w hSw;(try dsimp only at hSw);go_simp;try with_reducible rfl)
    try simp only [Act.put,List.setIfInBounds_toArray,List.set_cons_zero,List.set_cons_succ]
    refine e_take (i:=6) (v:=?_) rfl (by kernel_rfl) (fun _ _ _ h=>h) (by rfl) ?_ hS ?_
    rotate_left
    ·(intro w hSw;(try dsimp only at hSw);go_simp;try with_reducible rfl)
    try simp only [Act.put,List.setIfInBounds_toArray,List.set_cons_zero,List.set_cons_succ]
    refine e_take (i:=7) (v:=?_) rfl (by kernel_rfl) (fun _ _ _ h=>h) (by rfl) ?_ hS ?_
    rotate_left
    ·(intro w hSw;(try dsimp only at hSw);go_simp;try with_reducible rfl)
    try simp only [Act.put,List.setIfInBounds_toArray,List.set_cons_zero,List.set_cons_succ]
    refine e_take (i:=8) (v:=?_) rfl (by kernel_rfl) (fun _ _ _ h=>h) (by rfl) ?_ hS ?_
    rotate_left
    ·(intro w hSw;(try dsimp only at hSw);go_simp;try with_reducible rfl)
    try simp only [Act.put,List.setIfInBounds_toArray,List.set_cons_zero,List.set_cons_succ]
    refine e_take (i:=9) (v:=?_) rfl (by kernel_rfl) (fun _ _ _ h=>h) (by rfl) ?_ hS ?_
    rotate_left
    ·(intro w hSw;(try dsimp only at hSw);go_simp;try with_reducible rfl)
    try simp only [Act.put,List.setIfInBounds_toArray,List.set_cons_zero,List.set_cons_succ]
    refine e_pin (i:=10) rfl (by kernel_rfl) (fun K' hK=>?_)
    go_simp
    refine hK.out _ _ HY8.out (fun hS=>?_)
    clear hK K'
    try simp only [Act.put,List.setIfInBounds_toArray,List.set_cons_zero,List.set_cons_succ]
    refine e_pin (i:=11) rfl (by kernel_rfl) (fun K' hK=>?_)
    refine app_step rfl (by exact H8.out) 1 rfl (.tmp 31) (.tmp 40) 56 (by rfl) Tryz.underlying56 infoDrS (by decide) (by decide) (by rfl) (by rfl) (by exact Src.of_block (H8.out.block 0 rfl) rfl) (fun u hu=>by simp at hu;rcases hu with rfl | rfl <;> rfl) (by have:=HK.out;omega) ?_
    intro v1 w3 ho1 hg1
    obtain⟨Fo,r1⟩:=ho1.get 1 rfl
    obtain⟨vb,vd,rfl,-,-,-⟩:=RowA.shape r1
    have hz:w3.cell? ⟨tb,2,none⟩=some (.slice va k vc)∧w3.cell? ⟨sb,2,none⟩=some (.map (some dm))∧(Instr.lookup 113 (.map (some dm)) (.int .i64 x.1) false).run Tryz.prog w3=.ok (.int .i64 x.2) w3:=⟨cell_of (ho1.block 3 rfl) rfl,cell_of (ho1.block 6 rfl) rfl,sd_get1 ho1 8 rfl HD.out.2.1 (List.mem_of_getElem? HX.out) HWF.out⟩
    have d2:w3.cell? ⟨tb,2,none⟩=some (.slice va k vc):=hz.1
    have f2:w3.frozen? ⟨tb,2,none⟩=false:=free_of (ho1.block 3 rfl)
    have HR2:Hid (ViewRl s sb tb dm fm w.heap.size a c' pa pc (some ⟨ba,0,none⟩) kc F0 w0 R (.int .i64 ((k:Int)+1)) (w3.setCell ⟨tb,2,none⟩ (.slice vb (k+1) vd))):=Lib.hid (by
     refine⟨k+1,vb,vd,(List.getElem?_eq_some_iff.1 HX.out).1,by rw [Int.natCast_add];rfl,?_⟩
     have g6:=(ho1.put (b:=tb) (T:=59) 3 rfl 2 (.slice vb (k+1) vd)).drop
     rw [List.take_add_one,HX.out,Option.toList_some,List.map_append,List.flatten_append]
     exact g6)
    clear ho1 r1 hg1 H8 HY HY8 hS
    refine hK.out _ _ hz (fun hS=>?_)
    clear hK K' hz
    try simp only [Act.put,List.setIfInBounds_toArray,List.set_cons_zero,List.set_cons_succ]
    refine e_take (i:=12) (v:=?_) rfl (by kernel_rfl) (fun _ _ _ h=>h) (by rfl) ?_ hS ?_
    rotate_left
    ·(intro w hSw;(try dsimp only at hSw);go_simp;try with_reducible rfl)
    try simp only [Act.put,List.setIfInBounds_toArray,List.set_cons_zero,List.set_cons_succ]
    refine e_last (i:=13) rfl (by kernel_rfl) (fun K' hK=>?_)
    go_simp
    refine hK.out _ _ ?_
    clear hK K' hS
    go_wp2_with fail
    go_roundw
    case rel=>(try rw [hw2]);exact HR2.out
    case measure=>(try rw [hw2]);exact meas_lt hlt'
   ·have hkl:k=s.drs.length:=by omega
    subst hkl
    rw [List.take_length] at hio
    have c3:wr.cell? ⟨sb,3,none⟩=some (.map (some fm)):=cell_of (hio.block 5 rfl) rfl
    have KF:=Lib.hid (o_flsort hio 8 rfl HOK.out.fsort (Nat.le_trans HOK.out.flen (by decide)))
    have hge:decide ((s.drs.length:Int) < (s.drs.length:Int))=false:=decide_eq_false (by omega)
    clear hio hlt hk HD
    go_wp2_with fail
    refine (values_call _ _).mono ?_
    rintro e w1 ⟨rfl,rfl⟩
    go_wp2_with fail
    refine KF.out.mono ?_
    rintro e w4 ⟨fa,fc,rfl,g7⟩
    have d3:w4.cell? ⟨tb,3,none⟩=some (.slice none 0 0):=cell_of (g7.block 3 rfl) rfl
    have f3:w4.frozen? ⟨tb,3,none⟩=false:=free_of (g7.block 3 rfl)
    have g8:=g7.put (b:=tb) (T:=59) 3 rfl 3 (.slice fa s.fls.length fc)
    have Q0:Hid ((w4.setCell ⟨tb,3,none⟩ (.slice fa s.fls.length fc)).heap[tb]?=some (.cells #[.int .i64 s.gen,.slice pa s.bks.length pc,.slice va s.drs.length vc,.slice fa s.fls.length fc] 59 (0,0))):=Lib.hid (g8.block 3 rfl)
    have Q1:=Lib.hid (there_of (g8.block 5 rfl))
    have G:=Lib.hid (g8.setFull 5 rfl (xs:=[.int .i64 s.gen,.slice pa s.bks.length pc,.slice va s.drs.length vc,.slice fa s.fls.length fc]) (b:=w.heap.size) (C:=#[.int .i64 0,.slice none 0 0,.slice none 0 0,.slice none 0 0]) (T:=59) rfl)
    clear g7 g8 KF c3
    go_wp2_with (first | (refine wpList_load_row rfl 59 (.tmp 3) rfl tb rfl 59 _ (0,0) _ Q0.out Tryz.underlying59 rfl (by kernel_rfl) ?_) | (refine wpList_store_mid (op:=⟨none,Op.store 59 (.tmp 2) (.tmp 51),_,_,_,_⟩) (by rfl) 59 (.tmp 2) (.tmp 51) rfl w.heap.size 0 #[.int .i64 s.gen,.slice pa s.bks.length pc,.slice va s.drs.length vc,.slice fa s.fls.length fc] (by rfl) (by rfl) Q1.out (by kernel_rfl) (st4_all2 _ _ _ _ _ _ _ _ _ _) ?_))
    exact bodyPost_ret (results_cell_row Tryz.results21 _ _ w.heap.size 59 _ (0,0) _ rfl (G.out.block 5 rfl) Tryz.underlying59 rfl (by kernel_rfl)) rfl ⟨_,_,_,_,_,_,rfl,(In.stClose (s:=s) (dm:=dm) (fm:=fm) HOK.out (G.out.sel2 (R1:=[_,_,_,_,_,_,_,_,_,_]) [6,7,8,9,4,1,0] (by decide) rfl)).sel2 (R1:=[_,_,_,_]) [1,2,3,0] (by decide) rfl⟩
end
abbrev FlR (v:Value) (l:List Fl):Asrt:=RowA 36 8 v l.length ((l.map encFs).flatten)
theorem OkSt.lens {s:StD} (h:OkSt s):s.bks.length≤16∧s.drs.length≤16∧s.fls.length≤256:=⟨(gensMay_len h.bks).1,h.dlen,h.flen⟩
section
variable {F0:List Nat} {w0 w:World} {R:List Asrt} {sb:Nat} {s:StD}
theorem stV_of {A D G:Option Addr} {a d g:Nat} (i j k:Nat) (hb:R[i]?=some (BkR (.slice A s.bks.length a) s.bks)) (hd:R[j]?=some (DrR (.slice D s.drs.length d) s.drs)) (hf:R[k]?=some (FlR (.slice G s.fls.length g) s.fls)):AStV F0 w0 R s A D G:=
 ⟨fun w' h'=>by obtain⟨F,r⟩:=h'.get i hb;exact r.all,fun w' h'=>by obtain⟨F,r⟩:=h'.get j hd;exact r.all,fun w' h'=>by obtain⟨F,r⟩:=h'.get k hf;exact r.all⟩
theorem AStV.more {A D G:Option Addr} (v:AStV F0 w0 R s A D G) (X:Asrt):AStV F0 w0 (X::R) s A D G:=⟨fun w' h'=>v.bks w' h'.drop,fun w' h'=>v.drs w' h'.drop,fun w' h'=>v.fls w' h'.drop⟩
end
end Go.Proofs.YtpmmiljakbojaaaGreat
