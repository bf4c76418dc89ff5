/- Parts of the proofs that a compaction keeps what lives, and done again is as once. -/
import Derived.Test.YtogclkhpbjfadaaGreatCK9
import Derived.Test.YtogclkhpbjfadaaGreatCK8
import Derived.Test.YtogclkhpbjfadaaGreatCK10
namespace Go.Proofs.YtogclkhpbjfadaaGreat
open Go.RowKit
set_option linter.unusedVariables false
set_option maxHeartbeats 64000000
set_option maxRecDepth 100000
theorem tY {a b k:Nat} (h:zl a k=zl b k):a / 10 ^ k % 10=b / 10 ^ k % 10:=by
 have:=congrArg UInt8.toNat h
 simp only [zl,UInt8.toNat_ofNat'] at this
 have h1:=Nat.mod_lt (a / 10 ^ k) (show 10 > 0 by omega)
 have h2:=Nat.mod_lt (b / 10 ^ k) (show 10 > 0 by omega)
 omega
theorem oP {s:Nat} (h:1≤s∧s < 1000000):ai s=⟨#[115,zl s 5,zl s 4,zl s 3,zl s 2,zl s 1,zl s 0]⟩:=if_neg (by omega)
theorem sJ {s:Nat} (h:¬ (1≤s∧s < 1000000)):ai s=ByteArray.empty:=if_pos (by omega)
theorem mV {a b:Nat} (ha:1≤a∧a < 1000000) (hb:1≤b∧b < 1000000) (h:ai a=ai b):a=b:=by
 rw [oP ha,oP hb] at h
 have h2:=congrArg (fun x=>x.data.toList) h
 simp only [List.cons.injEq] at h2
 obtain⟨-,h5,h4,h3,h2,h1,h0,-⟩:=h2
 have e5:=tY h5
 have e4:=tY h4
 have e3:=tY h3
 have e2:=tY h2
 have e1:=tY h1
 have e0:=tY h0
 simp only [Nat.reducePow] at e5 e4 e3 e2 e1 e0
 omega
theorem pI {s:Nat} (h:1≤s∧s < 1000000):(ai s).size=7:=by rw [oP h];rfl
theorem yO (s:Nat):(ai s).size=7∨(ai s).size=0:=by
 by_cases h:1≤s∧s < 1000000
 ·exact Or.inl (pI h)
 ·right;rw [sJ h];rfl
theorem lM (s:Nat):ai s≠bL:=fun e=>by
 have h1:bL.size=1:=rfl
 have:=yO s
 rw [e] at this;omega
theorem pJ (s:Nat):ai s≠aB:=fun e=>by
 have h1:aB.size=5:=rfl
 have:=yO s
 rw [e] at this;omega
theorem jK:bL≠aB:=fun e=>by
 have h1:aB.size=5:=rfl
 have h2:bL.size=1:=rfl
 rw [e] at h2;omega
theorem Hl {b:Nat}:∀ {l:List Nat} {was:Nat},upB b was l=true→l.Pairwise (· < ·)
 | [],_,_=>List.Pairwise.nil
 | s::r,was,h=>by
  simp only [upB,Bool.and_eq_true,decide_eq_true_eq] at h
  exact List.pairwise_cons.2 ⟨fun x hx=>(Ez h.2 x hx).1,Hl h.2⟩
theorem qf {m:dw} (h:fM m=true):m.aa.Pairwise (· < ·):=Hl (bH.1 h).2
theorem EK {b:Nat}:∀ {l:List Nat} {was:Nat},l.Pairwise (· < ·)→(∀ s∈l,was < s∧s < b)→upB b was l=true
 | [],_,_,_=>rfl
 | s::r,was,h,hb=>by
  obtain⟨h1,h2⟩:=List.pairwise_cons.1 h
  simp only [upB,Bool.and_eq_true,decide_eq_true_eq]
  exact⟨hb s (by simp),EK h2 (fun x hx=>⟨h1 x hx,(hb x (List.mem_cons_of_mem _ hx)).2⟩)⟩
def Mine (aa:List Nat) (n:ByteArray):Prop:=n=bL∨∃ s∈aa,n=ai s
theorem vg {aa:List Nat}:¬ Mine aa aB:=by
 rintro (h | ⟨s,_,h⟩)
 ·exact jK h.symm
 ·exact pJ s h.symm
theorem JP {aa:List Nat} (h:∀ s∈aa,1≤s∧s < 1000000):¬ Mine aa ByteArray.empty:=by
 rintro (e | ⟨s,hs,e⟩)
 ·have:bL.size=1:=rfl
  rw [← e] at this;exact absurd this (by decide)
 ·have:=pI (h s hs)
  rw [← e] at this;exact absurd this (by decide)
theorem mW {aa:List Nat} (h:∀ s∈aa,1≤s∧s < 1000000) {x:Nat} (hx:x ∉ aa):¬ Mine aa (ai x):=by
 by_cases hv:1≤x∧x < 1000000
 ·rintro (e | ⟨s,hs,e⟩)
  ·exact lM x e
  ·exact hx (by rw [mV hv (h s hs) e];exact hs)
 ·rw [sJ hv];exact JP h
def dU (N:gF) (fs:List FileD) (n:ByteArray) (b:List UInt8) (s:Nat):Prop:=∃ i,bQ N n=some i∧(fs.getD i default).b=b∧s≤(fs.getD i default).sure
theorem dU.congr {N N':gF} {fs fs':List FileD} {n:ByteArray} {b:List UInt8} {s:Nat} (h:dU N fs n b s) (hN:bQ N' n=bQ N n) (hf:∀ i,bQ N n=some i→fs'.getD i default=fs.getD i default):dU N' fs' n b s:=by
 obtain⟨i,h1,h2,h3⟩:=h
 exact⟨i,by rw [hN,h1],by rw [hf i h1];exact h2,by rw [hf i h1];exact h3⟩
theorem dU.le {N:gF} {fs:List FileD} {n:ByteArray} {b:List UInt8} {s s':Nat} (h:dU N fs n b s) (hs:s'≤s):dU N fs n b s':=by
 obtain⟨i,h1,h2,h3⟩:=h
 exact⟨i,h1,h2,Nat.le_trans hs h3⟩
theorem dU.read {d:ae} {n:ByteArray} {b:List UInt8} {s:Nat} (h:dU d.now d.files n b s):gY d n=some b:=by
 obtain⟨i,h1,h2,h3⟩:=h
 unfold gY;rw [h1,Option.map_some,h2]
theorem dU.JQ {N:gF} {fs:List FileD} {n:ByteArray} {i:Nat} (hi:i < fs.length) (h0:bQ N n=some i) (x:FileD):dU N (fs.set i x) n x.b x.sure:=
 ⟨i,h0,by rw [ed hi,if_pos rfl],by rw [ed hi,if_pos rfl];exact Nat.le_refl _⟩
theorem dU.EL {N:gF} {fs:List FileD} {n n0:ByteArray} {b:List UInt8} {s k i:Nat} (h:dU N fs n b s) (hok:lJ N k) (hi:i < fs.length) (h0:bQ N n0=some i) (hne:n≠n0) (x:FileD):dU N (fs.set i x) n b s:=by
 refine h.congr rfl (fun j hj=>?_)
 rw [ed hi,if_neg]
 rintro rfl
 exact hne (Qg hok.ids (gy hj) (gy h0))
structure mo (N:gF) (fs:List FileD) (aa:List Nat) (aj:Nat) (C:List (List cB)) (L:List cB) (k:Nat):Prop where
 len:aa.length=C.length+1
 closed:∀ i,i < C.length→dU N fs (ai (aa.getD i 0)) (aN (C.getD i [])) (aN (C.getD i [])).length
 last:dU N fs (ai (aa.getD C.length 0)) (aN L) (aN (L.take k)).length
 few:k≤L.length
 ok:∀ f∈C.flatten++L,jI f∧f.aj=aj
def kL (N:gF) (fs:List FileD) (aa:List Nat) (aj:Nat) (Fr:List cB) (s:Nat):Prop:=∃ C L k,mo N fs aa aj C L k∧Fr=C.flatten++L∧s≤C.flatten.length+k
def Holds (N:gF) (fs:List FileD) (m:dw) (Fr:List cB) (s:Nat):Prop:=fM m=true∧dU N fs bL (ak (eu m)) (ak (eu m)).length∧kL N fs m.aa m.aj Fr s
theorem iT {l:List Nat} {i:Nat} (h:i < l.length):l.getD i 0∈l:=by
 rw [List.getD_eq_getElem?_getD,List.getElem?_eq_getElem h];simp
theorem mo.congr {N N':gF} {fs fs':List FileD} {aa:List Nat} {aj:Nat} {C:List (List cB)} {L:List cB} {k:Nat} (h:mo N fs aa aj C L k) (hN:agree (Mine aa) N' N) (hf:∀ n i,Mine aa n→bQ N n=some i→fs'.getD i default=fs.getD i default):mo N' fs' aa aj C L k:=by
 have hm:∀ i,i < C.length+1→Mine aa (ai (aa.getD i 0)):=fun i hi=>Or.inr ⟨_,iT (by rw [h.len];exact hi),rfl⟩
 exact⟨h.len,fun i hi=>(h.closed i hi).congr (hN _ (hm i (by omega))) (fun j hj=>hf _ j (hm i (by omega)) hj),h.last.congr (hN _ (hm _ (by omega))) (fun j hj=>hf _ j (hm _ (by omega)) hj),h.few,h.ok⟩
theorem kL.congr {N N':gF} {fs fs':List FileD} {aa:List Nat} {aj:Nat} {Fr:List cB} {s:Nat} (h:kL N fs aa aj Fr s) (hN:agree (Mine aa) N' N) (hf:∀ n i,Mine aa n→bQ N n=some i→fs'.getD i default=fs.getD i default):kL N' fs' aa aj Fr s:=by
 obtain⟨C,L,k,h1,h2,h3⟩:=h
 exact⟨C,L,k,h1.congr hN hf,h2,h3⟩
theorem Holds.congr {N N':gF} {fs fs':List FileD} {m:dw} {Fr:List cB} {s:Nat} (h:Holds N fs m Fr s) (hN:agree (Mine m.aa) N' N) (hf:∀ n i,Mine m.aa n→bQ N n=some i→fs'.getD i default=fs.getD i default):Holds N' fs' m Fr s:=
 ⟨h.1,h.2.1.congr (hN _ (Or.inl rfl)) (fun j hj=>hf _ j (Or.inl rfl) hj),h.2.2.congr hN hf⟩
theorem kL.le {N:gF} {fs:List FileD} {aa:List Nat} {aj:Nat} {Fr:List cB} {s s':Nat} (h:kL N fs aa aj Fr s) (hs:s'≤s):kL N fs aa aj Fr s':=by
 obtain⟨C,L,k,h1,h2,h3⟩:=h
 exact⟨C,L,k,h1,h2,Nat.le_trans hs h3⟩
theorem Holds.le {N:gF} {fs:List FileD} {m:dw} {Fr:List cB} {s s':Nat} (h:Holds N fs m Fr s) (hs:s'≤s):Holds N fs m Fr s':=⟨h.1,h.2.1,h.2.2.le hs⟩
theorem kL.zD {N:gF} {fs:List FileD} {aa:List Nat} {aj:Nat} {Fr:List cB} {s:Nat} (h:kL N fs aa aj Fr s):s≤Fr.length:=by
 obtain⟨C,L,k,h1,rfl,h3⟩:=h
 have:=h1.few
 rw [List.length_append];omega
structure nV (d:ae) (m:dw) (Fr:List cB):Prop where
 ok:aP d
 may:fM m=true
 head:dU d.now d.files bL (ak (eu m)) (ak (eu m)).length
 aa:∃ (C:List (List cB)) (L:List cB) (b:List UInt8),m.aa.length=C.length+1∧(∀ i,i < C.length→dU d.now d.files (ai (m.aa.getD i 0)) (aN (C.getD i [])) (aN (C.getD i [])).length) ∧
  dU d.now d.files (ai (m.aa.getD C.length 0)) b 0∧(bO b).1=L∧(bO b).2.1=(aN L).length∧aN L <+: b∧Fr=C.flatten++L∧∀ f∈C.flatten++L,jI f∧f.aj=m.aj
/-! A crash. -/
theorem qh {i:Nat}:∀ (N:gF) (fs:List FileD) (p:List UInt8),(∀ x∈N,x.2 < fs.length)→(∀ x∈N,x.2≠i)→(crashFiles N fs p).getD i default=fs.getD i default
 | [],_,_,_,_=>rfl
 | x::r,fs,p,hl,hn=>by
  unfold crashFiles
  rw [qh r _ _ (fun y hy=>by rw [List.length_set];exact hl y (List.mem_cons_of_mem _ hy)) (fun y hy=>hn y (List.mem_cons_of_mem _ hy)),ed (hl x (by simp)),if_neg (fun e=>hn x (by simp) e.symm)]
theorem uB:∀ (N:gF) (fs:List FileD) (p:List UInt8),(N.map (·.2)).Nodup→(∀ x∈N,x.2 < fs.length)→∀ x∈N,∃ j,j≤(fs.getD x.2 default).b.length - (fs.getD x.2 default).sure∧(crashFiles N fs p).getD x.2 default=Ay (fs.getD x.2 default) j
 | [],_,_,_,_,x,hx=>by simp at hx
 | y::r,fs,p,hn,hl,x,hx=>by
  obtain⟨n1,n2⟩:=List.nodup_cons.1 hn
  have hl':∀ z∈r,z.2 < (fs.set y.2 (Ay (fs.getD y.2 default) (pickN p ((fs.getD y.2 default).b.length - (fs.getD y.2 default).sure)))).length:=fun z hz=>by rw [List.length_set];exact hl z (List.mem_cons_of_mem _ hz)
  unfold crashFiles
  rcases List.mem_cons.1 hx with rfl | hx
  ·refine⟨_,qd p _,?_⟩
   rw [qh r _ _ hl' (fun z hz e=>n1 (List.mem_map.2 ⟨z,hz,e⟩)),ed (hl x (by simp)),if_pos rfl]
  ·obtain⟨j,h1,h2⟩:=uB r (fs.set y.2 (Ay (fs.getD y.2 default) (pickN p ((fs.getD y.2 default).b.length - (fs.getD y.2 default).sure)))) p.tail n2 hl' x hx
   have hne:x.2≠y.2:=fun e=>n1 (by simp only [← e];exact List.mem_map_of_mem (f:=(·.2)) hx)
   rw [ed (hl y (by simp)),if_neg hne] at h1 h2
   exact⟨j,h1,h2⟩
theorem dU.uC {N:gF} {fs:List FileD} {n:ByteArray} {b:List UInt8} {s:Nat} (h:dU N fs n b s) (hok:lJ N fs.length) (hf:∀ f∈fs,f.b.length≤1048576∧f.sure≤f.b.length) (p:List UInt8):∃ t,s≤t∧t≤b.length∧dU N (crashFiles N fs p) n (b.take t) t:=by
 obtain⟨i,h1,h2,h3⟩:=h
 have hm:=gy h1
 obtain⟨j,j1,j2⟩:=uB N fs p hok.ids hok.lt _ hm
 simp only at j1 j2
 have hs:=(hf _ (jf (hok.lt _ hm))).2
 simp only at hs
 rw [h2] at j1 hs
 refine⟨(fs.getD i default).sure+j,by omega,by omega,i,h1,?_,?_⟩
 ·rw [j2];simp only [Ay];rw [h2]
 ·rw [j2];simp [Ay]
theorem dU.AU {N:gF} {fs:List FileD} {n:ByteArray} {b:List UInt8} (h:dU N fs n b b.length) (hok:lJ N fs.length) (hf:∀ f∈fs,f.b.length≤1048576∧f.sure≤f.b.length) (p:List UInt8):dU N (crashFiles N fs p) n b b.length:=by
 obtain⟨t,h1,h2,h3⟩:=h.uC hok hf p
 obtain rfl:t=b.length:=by omega
 rwa [List.take_length] at h3
theorem qj (d:ae) (p:List UInt8):oN d (iL d p):=⟨pickN p d.ch.length,qd p _,rfl⟩
theorem Holds.uC {d:ae} {m:dw} {Fr:List cB} {s:Nat} (hok:aP d) (p:List UInt8) (h:Holds (iL d p) d.files m Fr s):∃ j,s≤j∧j≤Fr.length∧nV (iw d p) m (Fr.take j):=by
 obtain⟨hm,hh,C,L,k,h1,rfl,h3⟩:=h
 have hn:=pF hok p
 have hcl:∀ i,i < C.length→dU (iw d p).now (iw d p).files (ai (m.aa.getD i 0)) (aN (C.getD i [])) (aN (C.getD i [])).length:=fun i hi=>(h1.closed i hi).AU hn hok.file _
 obtain⟨t,t1,t2,t3⟩:=h1.last.uC hn hok.file p.tail
 obtain⟨j,j0,j1,j2,j3,j4⟩:=Jz (fun f hf=>(h1.ok f (List.mem_append_right _ hf)).1) (List.take_prefix t (aN L))
 have hkj:k≤j:=j4 k h1.few (by rw [List.length_take];omega)
 refine⟨C.flatten.length+j,by omega,by rw [List.length_append];omega,Dc hok p,hm,hh.AU hn hok.file _,C,L.take j,(aN L).take t,h1.len,hcl,t3.le (Nat.zero_le _),j1,j2,j3,?_,?_⟩
 ·rw [List.take_append,List.take_of_length_le (by omega)]
  congr 2;omega
 ·intro f hf
  refine h1.ok f ?_
  rcases List.mem_append.1 hf with hf | hf
  ·exact List.mem_append_left _ hf
  ·exact List.mem_append_right _ (List.mem_of_mem_take hf)
/-! An opening. -/
theorem Dh:∀ (l:List Nat) (j:Nat),(mU l).drop (4 * j)=mU (l.drop j)
 | _,0=>rfl
 | [],j+1=>by simp [mU]
 | x::r,j+1=>by
  have e:mU (x::r)=be x 4++mU r:=rfl
  rw [e,show 4 * (j+1)=4+4 * j by omega,← List.drop_drop,List.drop_left' (aZ _ _),Dh r j]
  rfl
theorem Mc {m:dw} (h:fM m=true):bD (ak (eu m))=(m,0):=by
 have ht:=nC (Xu h) []
 rw [List.append_nil] at ht
 obtain⟨⟨v1,v2,s1,s2,n1,n2⟩,_⟩:=bH.1 h
 have hb:(eu m).body=be m.next 4++be m.aa.length 2++mU m.aa:=rfl
 have x4:(be m.next 4++be m.aa.length 2++mU m.aa).take 4=be m.next 4:=by rw [List.append_assoc,List.take_left' (aZ _ _)]
 have x6:((be m.next 4++be m.aa.length 2++mU m.aa).drop 4).take 2=be m.aa.length 2:=by rw [List.append_assoc,List.drop_left' (aZ _ _),List.take_left' (aZ _ _)]
 have xs:∀ j,(be m.next 4++be m.aa.length 2++mU m.aa).drop (6+4 * j)=mU (m.aa.drop j):=fun j=>by
  rw [← List.drop_drop,List.drop_left' (by simp [aZ]),Dh]
 have hl:(be m.next 4++be m.aa.length 2++mU m.aa).length=6+4 * m.aa.length:=by simp [aZ,sH];omega
 have hsg:(List.range m.aa.length).map (fun j=>num ((mU (m.aa.drop j)).take 4))=m.aa:=by
  apply List.ext_getElem (by simp)
  intro j h1 h2
  simp only [List.getElem_map,List.getElem_range]
  have hj:m.aa.drop j=m.aa[j]::m.aa.drop (j+1):=List.drop_eq_getElem_cons h2
  have e:mU (m.aa.drop j)=be m.aa[j] 4++mU (m.aa.drop (j+1)):=by rw [hj];rfl
  rw [e,List.take_left' (aZ _ _),qQ]
  have:=(dW h (List.getElem_mem h2)).2.2
  omega
 unfold bD
 rw [ht]
 simp only
 have hk:(eu m).kind=100:=rfl
 have hv:(eu m).aj=m.aj:=rfl
 rw [if_neg (by simp),if_neg (by rw [hk];simp),if_neg (by rw [hv];omega),hb,x4,x6,hl,qQ (width:=4) (by omega),qQ (width:=2) (by omega),hv]
 simp only [xs,hsg]
 have e:(⟨m.aj,m.next,m.aa⟩:dw)=m:=rfl
 rw [e,if_pos ⟨trivial,h⟩]
theorem sK {σ:Type} (each:σ→cB→σ×Int) (aj:Nat):∀ (a b:List cB) (s:σ),tellAll each aj (a++b) s=if (tellAll each aj a s).2≠0 then tellAll each aj a s else tellAll each aj b (tellAll each aj a s).1
 | [],b,s=>by simp [tellAll]
 | f::r,b,s=>by
  have e:∀ x,tellAll each aj (f::x) s=if f.aj≠aj then (s,3) else if (each s f).2≠0 then each s f else tellAll each aj x (each s f).1:=fun _=>rfl
  rw [List.cons_append,e,e]
  by_cases h1:f.aj≠aj
  ·simp only [if_pos h1];simp
  ·simp only [if_neg h1]
   by_cases h2:(each s f).2≠0
   ·simp only [if_pos h2]
   ·simp only [if_neg h2];exact sK each aj r b _
theorem AV {σ:Type} (each:σ→cB→σ×Int) {d:ae} {m:dw} {C:List (List cB)} {L:List cB} {b:List UInt8} (hl:m.aa.length=C.length+1)
  (hc:∀ i,i < C.length→gY d (ai (m.aa.getD i 0))=some (aN (C.getD i []))) (hb:gY d (ai (m.aa.getD C.length 0))=some b) (h1:(bO b).1=L) (hok:∀ f∈C.flatten++L,jI f) :
  ∀ (k i n:Nat) (s:σ),i+k=C.length+1→1≤k→scanAll each d m k i n s=if (tellAll each m.aj ((C.drop i).flatten++L) s).2≠0 then ((tellAll each m.aj ((C.drop i).flatten++L) s).1,0,(tellAll each m.aj ((C.drop i).flatten++L) s).2) else ((tellAll each m.aj ((C.drop i).flatten++L) s).1,(bO b).2.1,0)
 | 0,i,n,s,hk,h0=>by omega
 | k+1,i,n,s,hk,_=>by
  unfold scanAll
  by_cases hi:i < C.length
  ·have hg:C.drop i=C.getD i []::C.drop (i+1):=by
    rw [List.drop_eq_getElem_cons hi,List.getD_eq_getElem?_getD,List.getElem?_eq_getElem hi];rfl
   have hfo:∀ f∈C.getD i [],jI f:=fun f hf=>hok f (List.mem_append_left _ (List.mem_flatten.2 ⟨_,by rw [List.getD_eq_getElem?_getD,List.getElem?_eq_getElem hi];simp,hf⟩))
   have e:dX each d m i s=if (tellAll each m.aj (C.getD i []) s).2≠0 then ((tellAll each m.aj (C.getD i []) s).1,0,(tellAll each m.aj (C.getD i []) s).2) else ((tellAll each m.aj (C.getD i []) s).1,(aN (C.getD i [])).length,0):=by
    unfold dX
    rw [hc i hi]
    simp only
    rw [uP hfo,if_neg (by simp)]
   rw [e,hg,List.flatten_cons,List.append_assoc,sK]
   by_cases h2:(tellAll each m.aj (C.getD i []) s).2≠0
   ·simp only [if_pos h2]
   ·simp only [if_neg h2]
    rw [if_neg (by simp)]
    exact AV each hl hc hb h1 hok k (i+1) _ _ (by omega) (by omega)
  ·obtain rfl:i=C.length:=by omega
   obtain rfl:k=0:=by omega
   have e:dX each d m C.length s=if (tellAll each m.aj L s).2≠0 then ((tellAll each m.aj L s).1,0,(tellAll each m.aj L s).2) else ((tellAll each m.aj L s).1,(bO b).2.1,0):=by
    unfold dX
    rw [hb]
    simp only
    rw [if_neg (by omega),h1]
   rw [e,List.drop_length]
   simp only [List.flatten_nil,List.nil_append]
   by_cases h2:(tellAll each m.aj L s).2≠0
   ·simp only [if_pos h2]
   ·simp only [if_neg h2];rw [if_neg (by simp)];rfl
theorem jL {l:bK} {n:Nat} (h:l.m.aa.length=n+1):bA l=ai (l.m.aa.getD n 0):=by
 unfold bA
 congr 1
 rw [List.getLastD_eq_getLast?,List.getLast?_eq_getElem?,List.getD_eq_getElem?_getD,h,Nat.add_sub_cancel]
structure fD (d:ae) (m:dw) (Fr:List cB) (s:Nat):Prop where
 ok:aP d
 now:Holds d.now d.files m Fr s
 st:∀ N,oN d N→agree (Mine m.aa) N d.now
structure Loose (d:ae) (m:dw) (Fr:List cB) (s:Nat) (lq:List cB) (s0:Nat):Prop where
 ok:aP d
 now:Holds d.now d.files m Fr s
 st:∀ N,oN d N→agree (Mine m.aa) N d.now∨∃ m0,Holds N d.files m0 lq s0
def gW (d:ae) (l:bK) (Fr:List cB) (s:Nat) (lq:List cB) (s0:Nat):Prop:=(l.loose=false∧fD d l.m Fr s)∨(l.loose=true∧Loose d l.m Fr s lq s0)
theorem Holds.on {d:ae} {m:dw} {Fr:List cB} {s:Nat} (hok:aP d) (h:Holds d.now d.files m Fr s):nV d m Fr:=by
 obtain⟨hm,hh,C,L,k,h1,rfl,h3⟩:=h
 have hL:∀ f∈L,jI f:=fun f hf=>(h1.ok f (List.mem_append_right _ hf)).1
 refine⟨hok,hm,hh,C,L,aN L,h1.len,h1.closed,h1.last.le (Nat.zero_le _),by rw [uP hL],by rw [uP hL],List.prefix_refl _,rfl,h1.ok⟩
theorem gW.ok {d:ae} {l:bK} {Fr lq:List cB} {s s0:Nat} (h:gW d l Fr s lq s0):aP d:=by
 rcases h with ⟨_,h⟩|⟨_,h⟩ <;> exact h.ok
theorem gW.now {d:ae} {l:bK} {Fr lq:List cB} {s s0:Nat} (h:gW d l Fr s lq s0):Holds d.now d.files l.m Fr s:=by
 rcases h with ⟨_,h⟩|⟨_,h⟩ <;> exact h.now
theorem gW.uC {d:ae} {l:bK} {Fr lq:List cB} {s s0:Nat} (h:gW d l Fr s lq s0) (p:List UInt8) :
  (∃ j,s≤j∧j≤Fr.length∧nV (iw d p) l.m (Fr.take j))∨(l.loose=true∧∃ m0 j,s0≤j∧j≤lq.length∧nV (iw d p) m0 (lq.take j)):=by
 rcases h with ⟨_,h⟩|⟨hl,h⟩
 ·exact Or.inl ((h.now.congr (h.st _ (qj d p)) (fun _ _ _ _=>rfl)).uC h.ok p)
 ·rcases h.st _ (qj d p) with h2 | ⟨m0,h2⟩
  ·exact Or.inl ((h.now.congr h2 (fun _ _ _ _=>rfl)).uC h.ok p)
  ·obtain⟨j,h3,h4,h5⟩:=h2.uC h.ok p
   exact Or.inr ⟨hl,m0,j,h3,h4,h5⟩
/-! What calls leave of a firm log. -/
theorem fD.other {d d':ae} {m:dw} {Fr:List cB} {s:Nat} (h:fD d m Fr s) {K:ByteArray→Prop} (hk:∀ n,Mine m.aa n→K n) (ho:dJ K d d') (hok:aP d'):fD d' m Fr s:=by
 have ha:agree (Mine m.aa) d'.now d.now:=fun n hn=>ho.names n (hk n hn)
 refine⟨hok,h.now.congr ha (fun n i hn hi=>ho.files n i (hk n hn) hi),fun N hN=>?_⟩
 rcases ho.states N hN with h1 | h1
 ·exact fun n hn=>(h.st N h1 n hn).trans (ha n hn).symm
 ·exact fun n hn=>(h1 n (hk n hn)).trans (ha n hn).symm
theorem fD.tick {d:ae} {m:dw} {Fr:List cB} {s:Nat} (h:fD d m Fr s):fD (aC d) m Fr s:=h.other (fun _ hn=>hn) (dJ.tick _ d) (bY h.ok)
theorem Loose.tick {d:ae} {m:dw} {Fr lq:List cB} {s s0:Nat} (h:Loose d m Fr s lq s0):Loose (aC d) m Fr s lq s0:=⟨bY h.ok,h.now,h.st⟩
theorem fD.sync {d:ae} {m:dw} {Fr:List cB} {s:Nat} (h:fD d m Fr s) (hn:d.now=d.now):fD (ma d) m Fr s:=by
 refine⟨⟨h.ok.dY,h.ok.file,⟨rfl,h.ok.now⟩,Nat.zero_le _,h.ok.Ew,h.ok.fail,fun n hn=>by simp [ma] at hn⟩,h.now,fun N hN=>?_⟩
 obtain⟨j,_,rfl⟩:=hN
 exact fun n hn=>by simp [ma]
theorem zF {d:ae} {m:dw} {Fr:List cB} {s:Nat} (hok:aP d) (h:Holds d.now d.files m Fr s):fD (ma d) m Fr s:=by
 refine⟨⟨hok.dY,hok.file,⟨rfl,hok.now⟩,Nat.zero_le _,hok.Ew,hok.fail,fun n hn=>by simp [ma] at hn⟩,h,fun N hN=>?_⟩
 obtain⟨j,_,rfl⟩:=hN
 exact fun n hn=>by simp [ma]
theorem getD_inj {l:List Nat} (h:l.Pairwise (· < ·)) {i j:Nat} (hi:i < l.length) (hj:j < l.length) (hij:i < j):l.getD i 0 < l.getD j 0:=by
 rw [List.getD_eq_getElem?_getD,List.getD_eq_getElem?_getD,List.getElem?_eq_getElem hi,List.getElem?_eq_getElem hj]
 exact List.pairwise_iff_getElem.1 h i j hi hj hij
theorem mo.qo {N:gF} {fs:List FileD} {aa:List Nat} {aj:Nat} {C:List (List cB)} {L:List cB} {k kk i:Nat} (h:mo N fs aa aj C L k) (hp:aa.Pairwise (· < ·)) (hv:∀ s∈aa,1≤s∧s < 1000000) (hok:lJ N kk) (hi:i < fs.length)
  (h0:bQ N (ai (aa.getD C.length 0))=some i) (x:FileD) (L':List cB) (k':Nat) (hb:x.b=aN L') (hs:(aN (L'.take k')).length≤x.sure) (hk:k'≤L'.length) (hfr:∀ f∈L',jI f∧f.aj=aj):mo N (fs.set i x) aa aj C L' k':=by
 have hl:=h.len
 refine⟨hl,fun j hj=>(h.closed j hj).EL hok hi h0 (fun e=>?_) x,?_,hk,fun f hf=>?_⟩
 ·have h1:=getD_inj hp (i:=j) (j:=C.length) (by omega) (by omega) hj
  have:=mV (hv _ (iT (by omega))) (hv _ (iT (by omega))) e
  omega
 ·have:=dU.JQ hi h0 x
  rw [hb] at this
  exact this.le hs
 ·rcases List.mem_append.1 hf with hf | hf
  ·exact h.ok f (List.mem_append_left _ hf)
  ·exact hfr f hf
theorem Holds.qo {d:ae} {m:dw} {C:List (List cB)} {L:List cB} {k i:Nat} {Fr:List cB} {s:Nat} (h:Holds d.now d.files m Fr s) (h1:mo d.now d.files m.aa m.aj C L k) (hok:aP d)
  (h0:bQ d.now (ai (m.aa.getD C.length 0))=some i) (x:FileD) (L':List cB) (k' s':Nat) (hb:x.b=aN L') (hs:(aN (L'.take k')).length≤x.sure) (hk:k'≤L'.length) (hfr:∀ f∈L',jI f∧f.aj=m.aj) (hs':s'≤C.flatten.length+k'):Holds d.now (d.files.set i x) m (C.flatten++L') s':=by
 have hv:∀ s∈m.aa,1≤s∧s < 1000000:=fun s hs=>⟨(dW h.1 hs).1,(dW h.1 hs).2.2⟩
 exact⟨h.1,h.2.1.EL hok.now (hok.at h0) h0 (fun e=>lM _ e.symm) x,C,L',k',h1.qo (qf h.1) hv hok.now (hok.at h0) h0 x L' k' hb hs hk hfr,rfl,hs'⟩
theorem fD.Hm {d:ae} {l:bK} {Fr:List cB} {s:Nat} (h:fD d l.m Fr s):((aW d (bA l)).2=0∧fD (aW d (bA l)).1 l.m Fr Fr.length)∨((aW d (bA l)).2≠0∧fD (aW d (bA l)).1 l.m Fr s):=by
 obtain⟨hm,hh,C,L,k,h1,rfl,h3⟩:=h.now
 rcases iJ d (bA l) with ⟨e,h2,he⟩|⟨_,i,h4,h5⟩
 ·rw [h2];exact Or.inr ⟨by simp only;omega,h.tick⟩
 ·left
  have hok:=gU h.ok (bA l)
  rw [h5] at hok ⊢
  rw [jL h1.len] at h4
  obtain⟨i',e1,e2,e3⟩:=h1.last
  obtain rfl:i=i':=by rw [h4] at e1;exact Option.some.inj e1
  refine⟨rfl,hok,?_,fun N hN=>h.st N hN⟩
  exact h.now.qo h1 h.ok h4 ⟨(d.files.getD i default).b,(d.files.getD i default).b.length⟩ L L.length _ e2 (by simp only;rw [e2,List.take_length];omega) (Nat.le_refl _) (fun f hf=>h1.ok f (List.mem_append_right _ hf)) (by rw [List.length_append];omega)
theorem fD.write {d:ae} {l:bK} {Fr:List cB} {s:Nat} (h:fD d l.m Fr s) {f:cB} (hf:jI f∧f.aj=l.m.aj):((aH d (bA l) (ak f)).2=0∧fD (aH d (bA l) (ak f)).1 l.m (Fr++[f]) s)∨((aH d (bA l) (ak f)).2≠0∧fD (aH d (bA l) (ak f)).1 l.m Fr s):=by
 obtain⟨hm,hh,C,L,k,h1,rfl,h3⟩:=h.now
 obtain⟨i',e1,e2,e3⟩:=h1.last
 have aav:=h1.few
 have hok:=iy h.ok (bA l) (ak f)
 rcases fE d (bA l) (ak f) with ⟨e,h2,he⟩|⟨_,_,_,⟨i,h4,h5⟩|⟨h4,_⟩⟩
 ·rw [h2];exact Or.inr ⟨by simp only;omega,h.tick⟩
 ·left
  rw [h5] at hok ⊢
  rw [jL h1.len] at h4
  obtain rfl:i=i':=by rw [h4] at e1;exact Option.some.inj e1
  refine⟨rfl,hok,?_,fun N hN=>h.st N hN⟩
  rw [List.append_assoc]
  refine h.now.qo h1 h.ok h4 ⟨(d.files.getD i default).b++ak f,(d.files.getD i default).sure⟩ (L++[f]) k s ?_ ?_ (by rw [List.length_append];omega) (fun g hg=>?_) h3
  ·simp only;rw [e2,jo];simp [aN]
  ·rw [List.take_append_of_le_length aav];exact e3
  ·rcases List.mem_append.1 hg with hg | hg
   ·exact h1.ok g (List.mem_append_right _ hg)
   ·simp at hg;subst hg;exact hf
 ·rw [jL h1.len,e1] at h4;cases h4
/-! A manifest is written. -/
theorem kW {K:ByteArray→Prop} {d:ae} (h:aP d) {n:ByteArray} (hn:¬ K n):dJ K d (bF n d).1:=by
 unfold bF;split
 ·exact dJ.remove h hn
 ·exact dJ.refl K d
theorem jM {d:ae} (h:aP d) (n:ByteArray):aP (bF n d).1:=by
 unfold bF;split
 ·exact nS h n
 ·exact h
theorem jN {d:ae} (h:aP d) {n:ByteArray} (h0:(bF n d).2=0):bQ (bF n d).1.now n=none:=by
 unfold bF at h0 ⊢
 split
 ·rename_i hs
  rw [if_pos hs] at h0
  rcases kz d n with ⟨e,h1,he⟩|⟨_,_,h1⟩
  ·rw [h1] at h0;simp only at h0;omega
  ·rw [h1];show bQ (dZ d.now n) n=none
   rw [nR h.now.row,if_pos rfl]
 ·rename_i hs
  simpa using hs
theorem kM {d:ae} (h:aP d) {n:ByteArray} {b:List UInt8} (hn:bQ d.now n=none) (h0:(aH d n b).2=0):dU (aH d n b).1.now (aH d n b).1.files n b 0:=by
 rcases fE d n b with ⟨e,h1,he⟩|⟨_,_,_,⟨i,h4,_⟩|⟨_,h5⟩⟩
 ·rw [h1] at h0;simp only at h0;omega
 ·rw [hn] at h4;cases h4
 ·rw [h5]
  have hi:d.files.length < (d.files++[(⟨[],0⟩:FileD)]).length:=by simp
  refine⟨d.files.length,?_,?_,Nat.zero_le _⟩
  ·show bQ (iQ d.now n d.files.length) n=_
   rw [qc h.now.row,if_pos rfl]
  ·show (((dR (aC d)).files.set d.files.length _).getD d.files.length default).b=b
   rw [ed (by exact hi),if_pos rfl]
   simp [bq,dR,aC]
theorem zG {d:ae} {n:ByteArray} {b:List UInt8} {s:Nat} (hok:aP d) (h:dU d.now d.files n b s) (h0:(aW d n).2=0):dU (aW d n).1.now (aW d n).1.files n b b.length:=by
 obtain⟨i,h1,h2,h3⟩:=h
 rcases iJ d n with ⟨e,h4,he⟩|⟨_,j,h4,h5⟩
 ·rw [h4] at h0;simp only at h0;omega
 ·obtain rfl:i=j:=by rw [h1] at h4;exact Option.some.inj h4
  rw [h5]
  have:=dU.JQ (N:=d.now) (hok.at h4) h4 ⟨(d.files.getD i default).b,(d.files.getD i default).b.length⟩
  rw [h2] at this
  simp only at this
  show dU d.now (d.files.set i _) n b b.length
  rw [h2];exact this
theorem yP {d:ae} {m m':dw} {Fr Cq:List cB} {s s':Nat} (h:fD d m Fr s) (h':kL d.now d.files m'.aa m'.aj Cq s') :
  ((aK m' d).2.1=false∧(aK m' d).2.2≠0∧fD (aK m' d).1 m Fr s)∨((aK m' d).2.1=true∧(aK m' d).2.2=0∧fM m'=true∧fD (aK m' d).1 m' Cq s')∨((aK m' d).2.1=true∧(aK m' d).2.2≠0∧Loose (aK m' d).1 m' Cq s' Fr s):=by
 unfold aK
 by_cases hm:fM m'=false
 ·rw [if_pos hm];exact Or.inl ⟨rfl,by simp,h⟩
 have hm':fM m'=true:=by simpa using hm
 rw [if_neg hm]
 have nf:¬ (fun n=>n≠aB) aB:=fun h=>h rfl
 have hk:∀ (aa:List Nat) n,Mine aa n→n≠aB:=fun aa n hn e=>vg (e ▸ hn)
 have o1:=kW (K:=fun n=>n≠aB) h.ok nf
 have k1:=jM h.ok aB
 have n1:=jN (n:=aB) h.ok
 have hfresh:eQ m' d=bR (bR (bR (bF aB d) (fun d=>aH d aB (ak (eu m')))) (fun d=>aW d aB)) (fun d=>bZ d aB bL):=rfl
 generalize bF aB d=r1 at *
 by_cases e1:r1.2=0
 case neg=>
  rw [bz e1,bz e1,bz e1] at hfresh
  rw [hfresh,if_pos e1]
  exact Or.inl ⟨rfl,e1,h.other (hk _) o1 k1⟩
 rw [aV e1] at hfresh
 have o2:=o1.trans (dJ.append (K:=fun n=>n≠aB) k1 nf (ak (eu m')))
 have k2:=iy k1 aB (ak (eu m'))
 have n2:=kM k1 (b:=ak (eu m')) (n1 e1)
 generalize aH r1.1 aB (ak (eu m'))=r2 at *
 by_cases e2:r2.2=0
 case neg=>
  rw [bz e2,bz e2] at hfresh
  rw [hfresh,if_pos e2]
  exact Or.inl ⟨rfl,e2,h.other (hk _) o2 k2⟩
 rw [aV e2] at hfresh
 have o3:=o2.trans (dJ.sync (K:=fun n=>n≠aB) k2 nf)
 have k3:=gU k2 aB
 have n3:=zG k2 (n2 e2)
 generalize aW r2.1 aB=r3 at *
 by_cases e3:r3.2=0
 case neg=>
  rw [bz e3] at hfresh
  rw [hfresh,if_pos e3]
  exact Or.inl ⟨rfl,e3,h.other (hk _) o3 k3⟩
 rw [aV e3] at hfresh
 have f3:=h.other (hk _) o3 k3
 have g3:kL r3.1.now r3.1.files m'.aa m'.aj Cq s':=h'.congr (fun n hn=>o3.names n (hk _ n hn)) (fun n i hn hi=>o3.files n i (hk _ n hn) hi)
 obtain⟨x,x1,x2,x3⟩:=n3 e3
 rcases jr r3.1 aB bL with ⟨e,h4,he⟩|⟨_,_,_,⟨h4,_⟩|⟨_,h4⟩⟩
 ·rw [h4] at hfresh
  rw [hfresh,if_pos (by simp only;omega)]
  exact Or.inl ⟨rfl,by simp only;omega,f3.tick⟩
 ·exact absurd h4.symm jK
 ·have k4:=rq k3 aB bL
  rw [h4] at hfresh k4
  rw [hfresh,if_neg (by simp)]
  simp only at k4 ⊢
  have hat:∀ n,n≠aB→bQ (bq (aC r3.1) (.ren aB bL)).now n=if n=bL then some x else bQ r3.1.now n:=fun n hn=>by
   show bQ (nmDo r3.1.now (.ren aB bL)) n=_
   have e:nmDo r3.1.now (.ren aB bL)=dZ (iQ r3.1.now bL x) aB:=by simp only [nmDo,x1]
   rw [e,nR (mi k3.now.row _ _),if_neg hn,qc k3.now.row]
  have Ul:Holds (bq (aC r3.1) (.ren aB bL)).now (bq (aC r3.1) (.ren aB bL)).files m' Cq s':=by
   refine⟨hm',⟨x,by rw [hat _ jK,if_pos rfl],x2,x3⟩,?_⟩
   obtain⟨C,L,k,c1,c2,c3⟩:=g3
   have hsn:∀ i,bQ (bq (aC r3.1) (.ren aB bL)).now (ai i)=bQ r3.1.now (ai i):=fun i=>by
    rw [hat _ (pJ _),if_neg (lM _)]
   exact⟨C,L,k,⟨c1.len,fun i hi=>(c1.closed i hi).congr (hsn _) (fun _ _=>rfl),c1.last.congr (hsn _) (fun _ _=>rfl),c1.few,c1.ok⟩,c2,c3⟩
  right
  rcases gz (bq (aC r3.1) (.ren aB bL)) with h6 | ⟨_,h6⟩
  ·right
   rw [h6]
   refine⟨trivial,by simp,bY k4,Ul,fun N hN=>?_⟩
   rcases uA (bY k3) hN with h7 | h7
   ·exact Or.inr ⟨m,f3.now.congr (f3.st N h7) (fun _ _ _ _=>rfl)⟩
   ·subst h7;exact Or.inl (fun _ _=>rfl)
  ·left
   rw [h6]
   exact⟨trivial,by simp,hm',zF (bY k4) Ul⟩
/-! The log's calls. -/
theorem vk {d:ae} {l:bK} {Fr lq:List cB} {s s0:Nat} (h:gW d l Fr s lq s0) :
  ((aY (d,l)).2=0∧(aY (d,l)).1.2=⟨l.size,l.m,false⟩∧fD (aY (d,l)).1.1 l.m Fr s)∨((aY (d,l)).2≠0∧(aY (d,l)).1.2=l∧gW (aY (d,l)).1.1 l Fr s lq s0):=by
 unfold aY
 rcases h with ⟨h1,h⟩|⟨h1,h⟩
 ·left
  simp only [h1]
  refine⟨by simp,?_,h⟩
  cases l;simp only at h1;subst h1;rfl
 ·simp only [h1]
  rcases gz d with h6 | ⟨_,h6⟩
  ·right
   rw [h6]
   refine⟨by simp,?_,Or.inr ⟨h1,h.tick⟩⟩
   cases l;simp only at h1;subst h1;simp
  ·left
   rw [h6]
   exact⟨by simp,by simp,zF (bY h.ok) h.now⟩
theorem Qs {d:ae} {l:bK} {Fr lq:List cB} {s s0:Nat} (h:gW d l Fr s lq s0) :
  (fw (d,l)).1.2.size=l.size∧(fw (d,l)).1.2.m=l.m∧(((fw (d,l)).2=0∧(fw (d,l)).1.2.loose=false∧fD (fw (d,l)).1.1 l.m Fr Fr.length)∨((fw (d,l)).2≠0∧gW (fw (d,l)).1.1 (fw (d,l)).1.2 Fr s lq s0)):=by
 unfold fw
 have h1:=vk h
 generalize aY (d,l)=r at *
 rcases h1 with ⟨h2,h3,h4⟩|⟨h2,h3,h4⟩
 ·rw [aV h2]
  unfold gT
  have h5:=fD.Hm (l:=r.1.2) (s:=s) (Fr:=Fr) (d:=r.1.1) (by rw [h3];exact h4)
  simp only
  rw [h3] at h5 ⊢
  refine⟨rfl,rfl,?_⟩
  rcases h5 with ⟨h6,h7⟩|⟨h6,h7⟩
  ·exact Or.inl ⟨h6,rfl,h7⟩
  ·exact Or.inr ⟨h6,Or.inl ⟨rfl,h7⟩⟩
 ·rw [bz h2,h3]
  exact⟨rfl,rfl,Or.inr ⟨h2,h4⟩⟩
theorem fD.le {d:ae} {m:dw} {Fr:List cB} {s s':Nat} (h:fD d m Fr s) (hs:s'≤s):fD d m Fr s':=⟨h.ok,h.now.le hs,h.st⟩
theorem fD.zD {d:ae} {m:dw} {Fr:List cB} {s:Nat} (h:fD d m Fr s):s≤Fr.length:=h.now.2.2.zD
theorem Loose.le {d:ae} {m:dw} {Fr lq:List cB} {s s' s0 s0':Nat} (h:Loose d m Fr s lq s0) (hs:s'≤s) (hs0:s0'≤s0):Loose d m Fr s' lq s0':=
 ⟨h.ok,h.now.le hs,fun N hN=>by
  rcases h.st N hN with h1 | ⟨m0,h1⟩
  ·exact Or.inl h1
  ·exact Or.inr ⟨m0,h1.le hs0⟩⟩
theorem fD.valid {d:ae} {m:dw} {Fr:List cB} {s:Nat} (h:fD d m Fr s):∀ x∈m.aa,1≤x∧x < 1000000:=fun x hx=>⟨(dW h.now.1 hx).1,(dW h.now.1 hx).2.2⟩
theorem wB {l:List Nat} {x i:Nat} (h:i < l.length):(l++[x]).getD i 0=l.getD i 0:=by
 rw [List.getD_eq_getElem?_getD,List.getD_eq_getElem?_getD,List.getElem?_append_left h]
theorem xP {l:List Nat} {x n:Nat} (h:l.length=n):(l++[x]).getD n 0=x:=by
 rw [List.getD_eq_getElem?_getD,← h];simp
theorem mo.snoc {N N':gF} {fs fs':List FileD} {aa:List Nat} {aj:Nat} {C:List (List cB)} {L F:List cB} {k x:Nat} (h:mo N fs aa aj C L k) (hk:L.length≤k) (hN:∀ s∈aa,bQ N' (ai s)=bQ N (ai s)) (hf:∀ s∈aa,∀ i,bQ N (ai s)=some i→fs'.getD i default=fs.getD i default)
  (hx:dU N' fs' (ai x) (aN F) 0) (hF:∀ f∈F,jI f∧f.aj=aj):mo N' fs' (aa++[x]) aj (C++[L]) F 0:=by
 have hl:=h.len
 refine⟨by simp [hl],fun i hi=>?_,?_,Nat.zero_le _,fun f hf=>?_⟩
 ·rw [List.length_append,List.length_singleton] at hi
  rw [wB (by omega)]
  have hm:aa.getD i 0∈aa:=iT (by omega)
  by_cases e:i < C.length
  ·have e2:(C++[L]).getD i []=C.getD i []:=by rw [List.getD_eq_getElem?_getD,List.getD_eq_getElem?_getD,List.getElem?_append_left e]
   rw [e2]
   exact (h.closed i e).congr (hN _ hm) (hf _ hm)
  ·obtain rfl:i=C.length:=by omega
   have e2:(C++[L]).getD C.length []=L:=by rw [List.getD_eq_getElem?_getD];simp
   rw [e2]
   have:=h.last
   rw [List.take_of_length_le hk] at this
   exact this.congr (hN _ hm) (hf _ hm)
 ·rw [xP (by simp [hl])];exact hx
 ·rw [List.flatten_append] at hf
  simp only [List.flatten_cons,List.flatten_nil,List.append_nil] at hf
  rcases List.mem_append.1 hf with hf | hf
  ·exact h.ok f hf
  ·exact hF f hf
theorem AX {d:ae} {l:bK} {Fr:List cB} {s:Nat} (h:fD d l.m Fr s) (hl:l.loose=false) :
  (gD (d,l)).1.2.size=l.size∧(gD (d,l)).1.2.m.aj=l.m.aj∧(((gD (d,l)).2=0∧(gD (d,l)).1.2.loose=false∧fD (gD (d,l)).1.1 (gD (d,l)).1.2.m Fr Fr.length)∨((gD (d,l)).2≠0∧gW (gD (d,l)).1.1 (gD (d,l)).1.2 Fr s Fr s)):=by
 have hsl:=h.zD
 unfold gD
 simp only
 by_cases h64:64≤l.m.aa.length
 ·rw [if_pos h64];exact⟨rfl,rfl,Or.inr ⟨by simp,Or.inl ⟨hl,h⟩⟩⟩
 rw [if_neg h64]
 have e1:gT (fun d=>aW d (bA l)) (d,l)=(((aW d (bA l)).1,l),(aW d (bA l)).2):=rfl
 rw [e1]
 rcases h.Hm (l:=l) with ⟨s1,f1⟩|⟨s1,f1⟩
 case inr=>
  have s1':((((aW d (bA l)).1,l),(aW d (bA l)).2):DL×Int).2≠0:=s1
  rw [bz s1',bz s1',bz s1']
  exact⟨rfl,rfl,Or.inr ⟨s1,Or.inl ⟨hl,f1⟩⟩⟩
 generalize aW d (bA l)=r1 at *
 have s1':(((r1.1,l),r1.2):DL×Int).2=0:=s1
 rw [aV s1']
 have hv:=f1.valid
 have hnot:l.m.next ∉ l.m.aa:=fun hm=>by have:=dW f1.now.1 hm;omega
 have Qt:∀ n,Mine l.m.aa n→n≠ai l.m.next:=fun n hn e=>mW hv hnot (e ▸ hn)
 have nk:¬ (fun n=>n≠ai l.m.next) (ai l.m.next):=fun h=>h rfl
 have e2:gT (dK l.m.next) (r1.1,l)=(((dK l.m.next r1.1).1,l),(dK l.m.next r1.1).2):=rfl
 rw [e2]
 have hb:dK l.m.next r1.1=bR (bF (ai l.m.next) r1.1) (fun d=>aH d (ai l.m.next) []):=rfl
 have o1:=kW (K:=fun n=>n≠ai l.m.next) f1.ok nk
 have k1:=jM f1.ok (ai l.m.next)
 have n1:=jN (n:=ai l.m.next) f1.ok
 generalize bF (ai l.m.next) r1.1=c1 at *
 by_cases q1:c1.2=0
 case neg=>
  rw [bz q1] at hb
  have q1':(((c1.1,l),c1.2):DL×Int).2≠0:=q1
  rw [hb,bz q1',bz q1']
  exact⟨rfl,rfl,Or.inr ⟨q1,Or.inl ⟨hl,(f1.other Qt o1 k1).le hsl⟩⟩⟩
 rw [aV q1] at hb
 rw [hb]
 have o2:=o1.trans (dJ.append (K:=fun n=>n≠ai l.m.next) k1 nk [])
 have k2:=iy k1 (ai l.m.next) []
 have n2:=kM k1 (b:=[]) (n1 q1)
 generalize aH c1.1 (ai l.m.next) []=c2 at *
 by_cases q2:c2.2=0
 case neg=>
  have q2':(((c2.1,l),c2.2):DL×Int).2≠0:=q2
  rw [bz q2',bz q2']
  exact⟨rfl,rfl,Or.inr ⟨q2,Or.inl ⟨hl,(f1.other Qt o2 k2).le hsl⟩⟩⟩
 have q2':(((c2.1,l),c2.2):DL×Int).2=0:=q2
 rw [aV q2']
 have e3:gT (fun d=>aW d (ai l.m.next)) (c2.1,l)=(((aW c2.1 (ai l.m.next)).1,l),(aW c2.1 (ai l.m.next)).2):=rfl
 rw [e3]
 have o3:=o2.trans (dJ.sync (K:=fun n=>n≠ai l.m.next) k2 nk)
 have k3:=gU k2 (ai l.m.next)
 have n3:=zG k2 (n2 q2)
 generalize aW c2.1 (ai l.m.next)=c3 at *
 have f3:=f1.other Qt o3 k3
 by_cases q3:c3.2=0
 case neg=>
  have q3':(((c3.1,l),c3.2):DL×Int).2≠0:=q3
  rw [bz q3']
  exact⟨rfl,rfl,Or.inr ⟨q3,Or.inl ⟨hl,f3.le hsl⟩⟩⟩
 have q3':(((c3.1,l),c3.2):DL×Int).2=0:=q3
 rw [aV q3']
 have hS:kL c3.1.now c3.1.files (gL l).aa (gL l).aj Fr Fr.length:=by
  obtain⟨_,_,C,L,k,g1,rfl,g3⟩:=f3.now
  refine⟨C++[L],[],0,g1.snoc ?_ (fun _ _=>rfl) (fun _ _ _ _=>rfl) ((n3 q3).le (Nat.zero_le _)) (fun f hf=>by simp at hf),by simp,by simp⟩
  rw [List.length_append] at g3;omega
 have hc:=yP f3 hS
 unfold dI
 simp only
 generalize aK (gL l) c3.1=r at *
 rcases hc with ⟨b1,b2,b3⟩|⟨b1,b2,b3,b4⟩|⟨b1,b2,b3⟩
 ·rw [if_neg (by rw [b1];simp)]
  exact⟨rfl,rfl,Or.inr ⟨b2,Or.inl ⟨hl,b3.le hsl⟩⟩⟩
 ·rw [if_pos b1]
  exact⟨rfl,rfl,Or.inl ⟨b2,by simp [b2],b4⟩⟩
 ·rw [if_pos b1]
  exact⟨rfl,rfl,Or.inr ⟨b2,Or.inr ⟨by simp [b2],b3.le hsl hsl⟩⟩⟩
theorem Xx {kind:Int} {aj:Nat} {body:List UInt8} (h:gq kind aj body.length=0):jI ⟨kind.toNat,aj,body⟩:=by
 unfold gq at h
 split at h
 ·cases h
 ·split at h
  ·cases h
  ·exact⟨by simp only;omega,by simp only;omega,by simp only;omega⟩
theorem vo {d:ae} {l:bK} {Fr lq:List cB} {s s0:Nat} (h:gW d l Fr s lq s0) (kind:Int) (body:List UInt8) :
  (bW kind body (d,l)).1.2.size=l.size∧(bW kind body (d,l)).1.2.m.aj=l.m.aj ∧
  (((bW kind body (d,l)).2=0∧(bW kind body (d,l)).1.2.loose=false∧fD (bW kind body (d,l)).1.1 (bW kind body (d,l)).1.2.m (Fr++[⟨kind.toNat,l.m.aj,body⟩]) s) ∨
    ((bW kind body (d,l)).2≠0∧(gW (bW kind body (d,l)).1.1 (bW kind body (d,l)).1.2 Fr s lq s0∨gW (bW kind body (d,l)).1.1 (bW kind body (d,l)).1.2 Fr s Fr s))):=by
 unfold bW
 simp only
 by_cases hp:gq kind l.m.aj body.length=0
 case neg=>rw [if_pos hp];exact⟨rfl,rfl,Or.inr ⟨hp,Or.inl h⟩⟩
 rw [if_neg (by simp [hp])]
 have hfo:=Xx hp
 have h1:=vk h
 generalize aY (d,l)=r at *
 rcases h1 with ⟨h2,h3,h4⟩|⟨h2,h3,h4⟩
 case inr=>
  rw [bz h2,bz h2,h3]
  exact⟨rfl,rfl,Or.inr ⟨h2,Or.inl h4⟩⟩
 rw [aV h2]
 obtain⟨⟨d1,l1⟩,e1⟩:=r
 simp only at h2 h3 h4 ⊢
 subst h3
 generalize Ho:(if lK ⟨l.size,l.m,false⟩ (bytesD d1 (bA ⟨l.size,l.m,false⟩)) (ak ⟨kind.toNat,l.m.aj,body⟩).length=true then ((d1,(⟨l.size,l.m,false⟩:bK)),(0:Int)) else gD (d1,⟨l.size,l.m,false⟩))=r2
 have h5:r2.1.2.size=l.size∧r2.1.2.m.aj=l.m.aj∧((r2.2=0∧r2.1.2.loose=false∧fD r2.1.1 r2.1.2.m Fr s)∨(r2.2≠0∧gW r2.1.1 r2.1.2 Fr s Fr s)):=by
  rw [← Ho]
  split
  ·exact⟨rfl,rfl,Or.inl ⟨rfl,rfl,h4⟩⟩
  ·obtain⟨t1,t2,t3⟩:=AX (l:=⟨l.size,l.m,false⟩) h4 rfl
   refine⟨t1,t2,?_⟩
   rcases t3 with ⟨u1,u2,u3⟩|⟨u1,u2⟩
   ·exact Or.inl ⟨u1,u2,u3.le h4.zD⟩
   ·exact Or.inr ⟨u1,u2⟩
 clear Ho
 obtain⟨h6,h7,h8⟩:=h5
 rcases h8 with ⟨h9,h10,h11⟩|⟨h9,h10⟩
 case inr=>
  rw [bz h9]
  exact⟨h6,h7,Or.inr ⟨h9,Or.inr h10⟩⟩
 rw [aV h9]
 unfold gT
 simp only
 refine⟨h6,h7,?_⟩
 rcases h11.write (l:=r2.1.2) (f:=⟨kind.toNat,l.m.aj,body⟩) ⟨hfo,h7.symm⟩ with ⟨k1,k2⟩|⟨k1,k2⟩
 ·exact Or.inl ⟨k1,h10,k2⟩
 ·exact Or.inr ⟨k1,Or.inl (Or.inl ⟨h10,k2⟩)⟩
/-! Rows are laid beside a log. -/
structure Beside (d0:ae) (m:dw) (s:ae×List Nat×Nat):Prop where
 other:dJ (Mine m.aa) d0 s.1
 ok:aP s.1
 aa:s.2.1=(List.range s.2.1.length).map (fun i=>m.next+i)
theorem Beside.mem {d0:ae} {m:dw} {s:ae×List Nat×Nat} (h:Beside d0 m s) {x:Nat} (hx:x∈s.2.1):m.next≤x∧x < m.next+s.2.1.length:=by
 rw [h.aa] at hx
 simp only [List.mem_map,List.mem_range] at hx
 obtain⟨i,hi,rfl⟩:=hx;omega
structure Laid (d0:ae) (m:dw) (aj:Nat) (P:List cB) (full:Bool) (s:ae×List Nat×Nat):Prop where
 beside:Beside d0 m s
 valid:∀ x∈s.2.1,x < 1000000
 held:(s.2.1=[]∧P=[])∨∃ C L k,mo s.1.now s.1.files s.2.1 aj C L k∧P=C.flatten++L∧s.2.2=(aN L).length∧(full=true→L.length≤k)
theorem AY (nx n:Nat):(List.range (n+1)).map (fun i=>nx+i)=(List.range n).map (fun i=>nx+i)++[nx+n]:=by rw [List.range_succ,List.map_append];rfl
theorem xQ {d0:ae} {m:dw} {aj:Nat} {P F:List cB} {s:ae×List Nat×Nat} (hv:∀ x∈m.aa,1≤x∧x < 1000000) (hlt:∀ x∈m.aa,x < m.next) (hn1:1≤m.next) (h:Laid d0 m aj P true s) (hF:∀ f∈F,jI f∧f.aj=aj) :
  ((dN m.next (aN F) s).2=0∧Laid d0 m aj (P++F) false (dN m.next (aN F) s).1∧(dN m.next (aN F) s).1.2.1≠[])∨((dN m.next (aN F) s).2≠0∧Beside d0 m (dN m.next (aN F) s).1):=by
 have hb:=h.beside
 unfold dN
 by_cases h64:64≤s.2.1.length
 ·rw [if_pos h64];exact Or.inr ⟨by simp,hb⟩
 rw [if_neg h64]
 have hnot:m.next+s.2.1.length ∉ m.aa:=fun hm=>by have:=hlt _ hm;omega
 have YW:¬ Mine m.aa (ai (m.next+s.2.1.length)):=mW hv hnot
 have o1:=kW (K:=Mine m.aa) hb.ok YW
 have p1:=kW (K:=fun n=>n≠ai (m.next+s.2.1.length)) hb.ok (fun h=>h rfl)
 have k1:=jM hb.ok (ai (m.next+s.2.1.length))
 have n1:=jN (n:=ai (m.next+s.2.1.length)) hb.ok
 generalize bF (ai (m.next+s.2.1.length)) s.1=c1 at *
 by_cases q1:c1.2=0
 case neg=>rw [if_pos q1];exact Or.inr ⟨q1,hb.other.trans o1,k1,hb.aa⟩
 rw [if_neg (by simp [q1])]
 have o2:=o1.trans (dJ.append (K:=Mine m.aa) k1 YW (aN F))
 have p2:=p1.trans (dJ.append (K:=fun n=>n≠ai (m.next+s.2.1.length)) k1 (fun h=>h rfl) (aN F))
 have k2:=iy k1 (ai (m.next+s.2.1.length)) (aN F)
 have n2:=kM k1 (b:=aN F) (n1 q1)
 have hnamed:(aH c1.1 (ai (m.next+s.2.1.length)) (aN F)).2=0→m.next+s.2.1.length < 1000000:=fun h0=>by
  rcases fE c1.1 (ai (m.next+s.2.1.length)) (aN F) with ⟨e,h1,he⟩|⟨_,hnm,_⟩
  ·rw [h1] at h0;simp only at h0;omega
  ·refine Classical.byContradiction fun hc=>?_
   rw [sJ (by omega)] at hnm
   exact absurd hnm (by decide)
 generalize aH c1.1 (ai (m.next+s.2.1.length)) (aN F)=c2 at *
 have hsg:s.2.1++[m.next+s.2.1.length]=(List.range (s.2.1++[m.next+s.2.1.length]).length).map (fun i=>m.next+i):=by
  rw [List.length_append,List.length_singleton,AY,← hb.aa]
 have hb2:Beside d0 m (c2.1,s.2.1++[m.next+s.2.1.length],(aN F).length):=⟨hb.other.trans o2,k2,hsg⟩
 by_cases q2:c2.2=0
 case neg=>exact Or.inr ⟨q2,hb2⟩
 left
 refine⟨q2,⟨hb2,fun x hx=>?_,Or.inr ?_⟩,by simp⟩
 ·rcases List.mem_append.1 hx with hx | hx
  ·exact h.valid x hx
  ·simp at hx;subst hx;exact hnamed q2
 ·rcases h.held with ⟨e1,rfl⟩|⟨C,L,k,g1,rfl,g3,g4⟩
  ·refine⟨[],F,0,⟨by simp [e1],fun i hi=>by simp at hi,?_,Nat.zero_le _,by simpa using hF⟩,by simp,rfl,fun h=>by cases h⟩
   have:=n2 q2
   simp only [e1,List.nil_append,List.length_nil,Nat.add_zero] at this ⊢
   exact this
  ·have hne:∀ x∈s.2.1,ai x≠ai (m.next+s.2.1.length):=fun x hx e=>by
    have:=hb.mem hx
    have:=mV ⟨by omega,h.valid x hx⟩ ⟨by omega,hnamed q2⟩ e
    omega
   exact⟨C++[L],F,0,g1.snoc (g4 rfl) (fun x hx=>p2.names _ (hne x hx)) (fun x hx i hi=>p2.files _ i (hne x hx) hi) (n2 q2) hF,by simp,rfl,fun h=>by cases h⟩
theorem mq {aa:List Nat} {n:Nat} (h:aa.length=n+1):newest aa=ai (aa.getD n 0):=by
 unfold newest
 congr 1
 rw [List.getLastD_eq_getLast?,List.getLast?_eq_getElem?,List.getD_eq_getElem?_getD,h,Nat.add_sub_cancel]
theorem vw (nx n:Nat):((List.range n).map (fun i=>nx+i)).Pairwise (· < ·):=List.pairwise_map.2 (List.pairwise_lt_range.imp (fun h=>by omega))
theorem xR {d0:ae} {m:dw} {aj:Nat} {P:List cB} {b:Bool} {s:ae×List Nat×Nat} (hv:∀ x∈m.aa,1≤x∧x < 1000000) (hlt:∀ x∈m.aa,x < m.next) (hn1:1≤m.next) (h:Laid d0 m aj P b s) (hne:s.2.1≠[]) :
  ((aW s.1 (newest s.2.1)).2=0∧Laid d0 m aj P true ((aW s.1 (newest s.2.1)).1,s.2))∨((aW s.1 (newest s.2.1)).2≠0∧Beside d0 m ((aW s.1 (newest s.2.1)).1,s.2)):=by
 have hb:=h.beside
 rcases h.held with ⟨e1,_⟩|⟨C,L,k,g1,rfl,g3,g4⟩
 ·exact absurd e1 hne
 have hl:=g1.len
 have hmem:s.2.1.getD C.length 0∈s.2.1:=iT (by omega)
 have YW:¬ Mine m.aa (newest s.2.1):=by
  rw [mq hl];exact mW hv (fun hm=>by have:=hlt _ hm;have:=hb.mem hmem;omega)
 have hb2:Beside d0 m ((aW s.1 (newest s.2.1)).1,s.2):=⟨hb.other.trans (dJ.sync hb.ok YW),gU hb.ok _,hb.aa⟩
 rcases iJ s.1 (newest s.2.1) with ⟨e,h2,he⟩|⟨_,i,h4,h5⟩
 ·rw [h2] at hb2 ⊢;exact Or.inr ⟨by simp only;omega,hb2⟩
 ·rw [h5] at hb2 ⊢
  rw [mq hl] at h4
  obtain⟨i',e1,e2,e3⟩:=g1.last
  obtain rfl:i=i':=by rw [h4] at e1;exact Option.some.inj e1
  left
  refine⟨rfl,hb2,h.valid,Or.inr ⟨C,L,L.length,?_,rfl,g3,fun _=>Nat.le_refl _⟩⟩
  exact g1.qo (by rw [hb.aa];exact vw _ _) (fun x hx=>⟨by have:=hb.mem hx;omega,h.valid x hx⟩) hb.ok.now (hb.ok.at h4) h4 ⟨(s.1.files.getD i default).b,(s.1.files.getD i default).b.length⟩ L L.length e2 (by simp only;rw [e2,List.take_length];omega) (Nat.le_refl _) (fun f hf=>g1.ok f (List.mem_append_right _ hf))
theorem Hq {d0:ae} {l:bK} {aj:Nat} {P:List cB} {f:cB} {s:ae×List Nat×Nat} (hv:∀ x∈l.m.aa,1≤x∧x < 1000000) (hlt:∀ x∈l.m.aa,x < l.m.next) (hn1:1≤l.m.next) (h:Laid d0 l.m aj P false s) (hF:jI f∧f.aj=aj) :
  ((jh l (ak f) s).2=0∧Laid d0 l.m aj (P++[f]) false (jh l (ak f) s).1∧(jh l (ak f) s).1.2.1≠[])∨((jh l (ak f) s).2≠0∧Beside d0 l.m (jh l (ak f) s).1):=by
 have hb:=h.beside
 have hj:ak f=aN [f]:=by simp [aN]
 unfold jh
 by_cases he:s.2.1=[]
 ·rw [if_pos he,hj]
  refine xQ hv hlt hn1 ⟨hb,h.valid,?_⟩ (by simpa using hF)
  rcases h.held with h1 | ⟨C,L,k,g1,_⟩
  ·exact Or.inl h1
  ·have:=g1.len;rw [he] at this;simp at this
 rw [if_neg he]
 obtain⟨C,L,k,g1,rfl,g3,g4⟩:∃ C L k,mo s.1.now s.1.files s.2.1 aj C L k∧P=C.flatten++L∧s.2.2=(aN L).length∧(false=true→L.length≤k):=by
  rcases h.held with ⟨h1,_⟩ | h1
  ·exact absurd h1 he
  ·exact h1
 have hl:=g1.len
 have hmem:s.2.1.getD C.length 0∈s.2.1:=iT (by omega)
 have YW:¬ Mine l.m.aa (newest s.2.1):=by
  rw [mq hl];exact mW hv (fun hm=>by have:=hlt _ hm;have:=hb.mem hmem;omega)
 by_cases hfit:lK l s.2.2 (ak f).length=true
 ·rw [if_pos hfit]
  have hb2:Beside d0 l.m ((aH s.1 (newest s.2.1) (ak f)).1,s.2.1,s.2.2+(ak f).length):=⟨hb.other.trans (dJ.append hb.ok YW _),iy hb.ok _ _,hb.aa⟩
  obtain⟨i',e1,e2,e3⟩:=g1.last
  rcases fE s.1 (newest s.2.1) (ak f) with ⟨e,h2,hee⟩|⟨_,_,_,⟨i,h4,h5⟩|⟨h4,_⟩⟩
  ·rw [h2] at hb2 ⊢;exact Or.inr ⟨by simp only;omega,hb2⟩
  ·rw [h5] at hb2 ⊢
   rw [mq hl] at h4
   obtain rfl:i=i':=by rw [h4] at e1;exact Option.some.inj e1
   left
   refine⟨rfl,⟨hb2,h.valid,Or.inr ⟨C,L++[f],0,?_,by simp,?_,fun h=>by cases h⟩⟩,he⟩
   ·refine g1.qo (by rw [hb.aa];exact vw _ _) (fun x hx=>⟨by have:=hb.mem hx;omega,h.valid x hx⟩) hb.ok.now (hb.ok.at h4) h4 ⟨(s.1.files.getD i default).b++ak f,(s.1.files.getD i default).sure⟩ (L++[f]) 0 ?_ (by simp [aN]) (Nat.zero_le _) (fun g hg=>?_)
    ·simp only;rw [e2,jo];simp [aN]
    ·rcases List.mem_append.1 hg with hg | hg
     ·exact g1.ok g (List.mem_append_right _ hg)
     ·simp at hg;subst hg;exact hF
   ·simp only;rw [g3,jo,List.length_append,← hj]
  ·rw [mq hl,e1] at h4;cases h4
 ·rw [if_neg hfit]
  rcases xR hv hlt hn1 h he with ⟨q1,q2⟩|⟨q1,q2⟩
  ·rw [aV (by exact q1)]
   have:=xQ (F:=[f]) hv hlt hn1 q2 (by simpa using hF)
   rw [← hj] at this
   exact this
  ·rw [bz (by exact q1)]
   exact Or.inr ⟨q1,q2⟩
theorem Di {d0:ae} {l:bK} {aj:Nat} (hv:∀ x∈l.m.aa,1≤x∧x < 1000000) (hlt:∀ x∈l.m.aa,x < l.m.next) (hn1:1≤l.m.next):∀ (R P:List cB) (s:ae×List Nat×Nat),Laid d0 l.m aj P false s→(∀ f∈R,jI f∧f.aj=aj) →
  ((rowsD l (R.map ak) s).2=0∧Laid d0 l.m aj (P++R) false (rowsD l (R.map ak) s).1)∨((rowsD l (R.map ak) s).2≠0∧Beside d0 l.m (rowsD l (R.map ak) s).1)
 | [],P,s,h,_=>Or.inl ⟨rfl,by rw [List.append_nil];exact h⟩
 | f::R,P,s,h,hR=>by
  rw [List.map_cons]
  unfold rowsD
  rcases Hq hv hlt hn1 h (hR f (by simp)) with ⟨q1,q2,_⟩|⟨q1,q2⟩
  ·rw [aV q1]
   have:=Di hv hlt hn1 R (P++[f]) _ q2 (fun g hg=>hR g (List.mem_cons_of_mem _ hg))
   rw [List.append_assoc] at this
   exact this
  ·rw [bz q1];exact Or.inr ⟨q1,q2⟩
theorem Ht {d:ae} {l:bK} {aj:Nat} (hok:aP d) (hm:fM l.m=true) (R:List cB) (hR:∀ f∈R,jI f∧f.aj=aj) :
  ((fH l (R.map ak) d).2=0∧Laid d l.m aj R true (fH l (R.map ak) d).1∧(fH l (R.map ak) d).1.2.1≠[])∨((fH l (R.map ak) d).2≠0∧Beside d l.m (fH l (R.map ak) d).1):=by
 have hv:∀ x∈l.m.aa,1≤x∧x < 1000000:=fun x hx=>⟨(dW hm hx).1,(dW hm hx).2.2⟩
 have hlt:∀ x∈l.m.aa,x < l.m.next:=fun x hx=>(dW hm hx).2.1
 have hn1:1≤l.m.next:=(bH.1 hm).1.2.2.2.2.1
 have h0:Laid d l.m aj [] false (d,[],0):=⟨⟨dJ.refl _ d,hok,rfl⟩,by simp,Or.inl ⟨rfl,rfl⟩⟩
 unfold fH
 rcases Di hv hlt hn1 R [] _ h0 hR with ⟨q1,q2⟩|⟨q1,q2⟩
 case inr=>rw [bz q1,bz q1];exact Or.inr ⟨q1,q2⟩
 rw [aV q1]
 rw [List.nil_append] at q2
 generalize (rowsD l (R.map ak) (d,[],0)).1=s at *
 have h2:((if s.2.1=[] then dN l.m.next [] s else (s,0)).2=0∧Laid d l.m aj R false (if s.2.1=[] then dN l.m.next [] s else (s,0)).1∧(if s.2.1=[] then dN l.m.next [] s else (s,0)).1.2.1≠[])∨((if s.2.1=[] then dN l.m.next [] s else (s,0)).2≠0∧Beside d l.m (if s.2.1=[] then dN l.m.next [] s else (s,0)).1):=by
  by_cases he:s.2.1=[]
  ·rw [if_pos he]
   have h3:Laid d l.m aj R true s:=⟨q2.beside,q2.valid,by
    rcases q2.held with h1 | ⟨C,L,k,g1,_⟩
    ·exact Or.inl h1
    ·have:=g1.len;rw [he] at this;simp at this⟩
   have:=xQ (F:=[]) hv hlt hn1 h3 (by simp)
   rw [List.append_nil] at this
   exact this
  ·rw [if_neg he];exact Or.inl ⟨rfl,q2,he⟩
 generalize (if s.2.1=[] then dN l.m.next [] s else (s,0))=r at *
 rcases h2 with ⟨q3,q4,q5⟩|⟨q3,q4⟩
 case inr=>rw [bz q3];exact Or.inr ⟨q3,q4⟩
 rw [aV q3]
 rcases xR hv hlt hn1 q4 q5 with ⟨q6,q7⟩|⟨q6,q7⟩
 ·exact Or.inl ⟨q6,q7,q5⟩
 ·exact Or.inr ⟨q6,q7⟩
theorem AZ {K:ByteArray→Prop}:∀ (l:List Nat) (d:ae),aP d→(∀ s∈l,¬ K (ai s))→dJ K d (dropD l d)∧aP (dropD l d)
 | [],d,h,_=>⟨dJ.refl K d,h⟩
 | s::r,d,h,hk=>by
  have h1:=kW (K:=K) h (hk s (by simp))
  obtain⟨h2,h3⟩:=AZ r _ (jM h (ai s)) (fun x hx=>hk x (List.mem_cons_of_mem _ hx))
  exact⟨h1.trans h2,h3⟩
theorem wC {K:ByteArray→Prop}:∀ (l:List Nat) (d:ae),aP d→(∀ s∈l,¬ K (ai s))→dJ K d (iB l d)∧aP (iB l d)
 | [],d,h,_=>⟨dJ.refl K d,h⟩
 | s::r,d,h,hk=>by
  have h1:=dJ.remove (K:=K) h (hk s (by simp))
  obtain⟨h2,h3⟩:=wC r _ (nS h (ai s)) (fun x hx=>hk x (List.mem_cons_of_mem _ hx))
  exact⟨h1.trans h2,h3⟩
theorem kX {d:ae} (h:d.fail=0):¬ dE d:=by unfold dE;omega
theorem sM {d:ae} {n:ByteArray} {i:Nat} (h:d.fail=0) (hi:bQ d.now n=some i):aW d n=(iE (aC d) i ⟨(d.files.getD i default).b,(d.files.getD i default).b.length⟩,0):=by
 unfold aW;rw [if_neg (kX h),hi]
theorem sO {d:ae} (h:d.fail=0):bE d=(ma (aC d),0):=by unfold bE;rw [if_neg (kX h)]
theorem fK {d:ae} (h:d.fail=0):(aC d).fail=0:=by show d.fail - 1=0;omega
theorem Qu {d:ae} {i:Nat} (hi:i < d.files.length) (x:FileD) (hx:x.b.length≤eX d i) (j:Nat):eX (iE d i x) j≤eX d j:=by
 unfold eX iE at *
 simp only
 rw [ed hi]
 split
 ·rename_i e;subst e;exact hx
 ·exact Nat.le_refl _
theorem Qv {α:Type} {f g:α→Nat}:∀ {l:List α},(∀ x∈l,f x≤g x)→(l.map f).sum≤(l.map g).sum
 | [],_=>Nat.le_refl _
 | a::r,h=>by
  have:=Qv (l:=r) (fun x hx=>h x (List.mem_cons_of_mem _ hx))
  have h2:=h a (by simp)
  simp only [List.map_cons,List.sum_cons];omega
theorem size_set {d:ae} {i:Nat} (hi:i < d.files.length) (x:FileD) (hx:x.b.length≤eX d i):fT (iE d i x)≤fT d:=Qv (fun y _=>Qu hi x hx y.2)
structure Qw (d d':ae):Prop where
 fail:d'.fail=0
 dY:d'.dY=d.dY
 now:d'.now=d.now
 size:fT d'≤fT d
 ops:d'.ops≤d.ops+3
 chs:d'.ch=[]
 files:d'.files.length=d.files.length
def Dj (d:ae) (l:bK) (n:Nat):ae×Int:=bR (bR (if n=bytesD d (bA l) then (d,0) else lI d (bA l) n) (fun d=>aW d (bA l))) bE
theorem Qx {d:ae} {m:dw} {Fr:List cB} (h:nV d m Fr) (hf:d.fail=0) (size:Nat) {C:List (List cB)} {L:List cB} {b:List UInt8} (hl:m.aa.length=C.length+1)
  (hc:∀ i,i < C.length→dU d.now d.files (ai (m.aa.getD i 0)) (aN (C.getD i [])) (aN (C.getD i [])).length) (hb:dU d.now d.files (ai (m.aa.getD C.length 0)) b 0) (hp:aN L <+: b) (e:Fr=C.flatten++L) (hok:∀ f∈C.flatten++L,jI f∧f.aj=m.aj) :
  (Dj d ⟨size,m,false⟩ (aN L).length).2=0∧fD (Dj d ⟨size,m,false⟩ (aN L).length).1 m Fr Fr.length∧Qw d (Dj d ⟨size,m,false⟩ (aN L).length).1:=by
 have hlast:bA ⟨size,m,false⟩=ai (m.aa.getD C.length 0):=jL hl
 obtain⟨i,h1,h2,h3⟩:=hb
 have hi:=h.ok.at h1
 have hbl:bytesD d (bA ⟨size,m,false⟩)=b.length:=by
  unfold bytesD gY;rw [hlast,h1,Option.map_some,h2];rfl
 have hpl:=hp.length_le
 have hbt:b.take (aN L).length=aN L:=(List.prefix_iff_eq_take.1 hp).symm
 have hv:∀ s∈m.aa,1≤s∧s < 1000000:=fun s hs=>⟨(dW h.may hs).1,(dW h.may hs).2.2⟩
 -- the last file,cut
 obtain⟨d1,hd1,x,hx1,hx2,hfl⟩:∃ d1,(if (aN L).length=bytesD d (bA ⟨size,m,false⟩) then (d,0) else lI d (bA ⟨size,m,false⟩) (aN L).length)=(d1,0)∧∃ x:FileD,d1.files=d.files.set i x∧x.b=aN L ∧
   (d1.fail=0∧d1.dY=d.dY∧d1.now=d.now∧d1.ops≤d.ops+1∧aP d1):=by
  by_cases hq:(aN L).length=b.length
  ·refine⟨d,by rw [hbl,if_pos hq],d.files.getD i default,?_,?_,hf,rfl,rfl,by omega,h.ok⟩
   ·rw [List.getD_eq_getElem?_getD,List.getElem?_eq_getElem hi,Option.getD_some,List.set_getElem_self]
   ·rw [h2,← hbt,hq,List.take_length]
  ·have hcut:=LZ h.ok (bA ⟨size,m,false⟩) (aN L).length
   have ec:lI d (bA ⟨size,m,false⟩) (aN L).length=(iE (aC d) i ⟨(d.files.getD i default).b.take (aN L).length,(aN L).length⟩,0):=by
    unfold lI;rw [if_neg (kX hf),hlast,h1]
    simp only
    rw [if_neg (by unfold eX;rw [h2];omega)]
    simp
   rw [ec] at hcut
   refine⟨iE (aC d) i ⟨(d.files.getD i default).b.take (aN L).length,(aN L).length⟩,by rw [hbl,if_neg hq,ec],⟨(d.files.getD i default).b.take (aN L).length,(aN L).length⟩,rfl,?_,fK hf,rfl,rfl,Nat.le_refl _,hcut⟩
   simp only;rw [h2,hbt]
 obtain⟨f1,f2,f3,f4,f5⟩:=hfl
 have hn1:bQ d1.now (bA ⟨size,m,false⟩)=some i:=by rw [f3,hlast];exact h1
 have hx3:d1.files.getD i default=x:=by rw [hx1,ed hi,if_pos rfl]
 have hs:=sM f1 hn1
 rw [hx3] at hs
 have hk2:=gU f5 (bA ⟨size,m,false⟩)
 rw [hs] at hk2
 have hsd:=sO (d:=iE (aC d1) i ⟨x.b,x.b.length⟩) (fK f1)
 have hE:Dj d ⟨size,m,false⟩ (aN L).length=(ma (aC (iE (aC d1) i ⟨x.b,x.b.length⟩)),0):=by
  unfold Dj
  have t1:bR (d1,(0:Int)) (fun d=>aW d (bA ⟨size,m,false⟩))=aW d1 (bA ⟨size,m,false⟩):=aV rfl
  have t2:bR (iE (aC d1) i ⟨x.b,x.b.length⟩,(0:Int)) bE=bE (iE (aC d1) i ⟨x.b,x.b.length⟩):=aV rfl
  rw [hd1,t1,hs,t2,hsd]
 have JR:(iE (aC d1) i ⟨x.b,x.b.length⟩).files=d.files.set i ⟨x.b,x.b.length⟩:=by
  show d1.files.set i _=_
  rw [hx1,List.set_set]
 have Zv:Holds d.now (d.files.set i ⟨x.b,x.b.length⟩) m Fr Fr.length:=by
  refine⟨h.may,h.head.EL h.ok.now hi h1 (fun e=>lM _ e.symm) _,C,L,L.length,⟨hl,fun j hj=>(hc j hj).EL h.ok.now hi h1 (fun e=>?_) _,?_,Nat.le_refl _,hok⟩,e,by rw [e,List.length_append];exact Nat.le_refl _⟩
  ·have h4:=getD_inj (qf h.may) (i:=j) (j:=C.length) (by omega) (by omega) hj
   have:=mV (hv _ (iT (by omega))) (hv _ (iT (by omega))) e
   omega
  ·have:=dU.JQ hi h1 ⟨x.b,x.b.length⟩
   simp only [hx2] at this ⊢
   rw [List.take_length]
   exact this
 rw [hE]
 refine⟨rfl,?_,⟨fK (fK f1),f2,f3,?_,?_,rfl,?_⟩⟩
 ·refine zF (bY hk2) ?_
  show Holds d1.now (iE (aC d1) i ⟨x.b,x.b.length⟩).files m Fr Fr.length
  rw [JR,f3]
  exact Zv
 ·have hle:x.b.length≤eX d i:=by unfold eX;rw [hx2,h2];exact hpl
  have:=size_set hi ⟨x.b,x.b.length⟩ hle
  show fT (ma (aC (iE (aC d1) i ⟨x.b,x.b.length⟩)))≤fT d
  refine Nat.le_trans (Nat.le_of_eq ?_) this
  show (d1.now.map (fun y=>(((iE (aC d1) i ⟨x.b,x.b.length⟩).files).getD y.2 default).b.length)).sum=(d.now.map (fun y=>((d.files.set i ⟨x.b,x.b.length⟩).getD y.2 default).b.length)).sum
  rw [JR,f3]
 ·show d1.ops+1+1≤d.ops+3
  omega
 ·show (iE (aC d1) i ⟨x.b,x.b.length⟩).files.length=_
  rw [JR,List.length_set]
theorem Um {σ:Type} (each:σ→cB→σ×Int) {d:ae} {m:dw} {Fr:List cB} (h:nV d m Fr) (hf:d.fail=0) (size:Int) (s:σ) :
  ∃ d',dB each size d s=(if (tellAll each m.aj Fr s).2≠0 then ((tellAll each m.aj Fr s).1,d,none,(tellAll each m.aj Fr s).2) else ((tellAll each m.aj Fr s).1,d',some ⟨sized size,m,false⟩,0))∧fD d' m Fr Fr.length∧Qw d d':=by
 obtain⟨C,L,b,hl,hc,hb,h1,h2,h3,h4,h5⟩:=h.aa
 obtain⟨e1,e2,e3⟩:=Qx h hf (sized size) hl hc hb h3 h4 h5
 refine⟨_,?_,e2,e3⟩
 have hs:=AV each hl (fun i hi=>(hc i hi).read) hb.read h1 (fun f hf=>(h5 f hf).1) (C.length+1) 0 0 s (by omega) (by omega)
 rw [List.drop_zero,← h4,h2] at hs
 unfold dB
 rw [h.head.read]
 simp only
 rw [Mc h.may]
 simp only
 rw [if_neg (by simp),hl,hs]
 by_cases ht:(tellAll each m.aj Fr s).2≠0
 ·simp only [if_pos ht]
 ·simp only [if_neg ht]
  rw [if_neg (by simp)]
  have hE:bR (bR (if (aN L).length=bytesD d (bA ⟨sized size,m,false⟩) then (d,0) else lI d (bA ⟨sized size,m,false⟩) (aN L).length) (fun d=>aW d (bA ⟨sized size,m,false⟩))) bE=Dj d ⟨sized size,m,false⟩ (aN L).length:=rfl
  rw [hE,if_neg (by rw [e1];simp)]
theorem nV.aj {d:ae} {m:dw} {Fr:List cB} (h:nV d m Fr):∀ f∈Fr,jI f∧f.aj=m.aj:=by
 obtain⟨C,L,b,hl,hc,hb,h1,h2,h3,h4,h5⟩:=h.aa
 rw [h4];exact h5
structure Rm (d:ae) (B n:Nat):Prop where
 fail:d.fail=0
 bytes:fT d+B≤d.dY
 names:d.now.length+n≤200
 small:d.dY≤1048576
theorem Rm.le {d:ae} {B n B' n':Nat} (h:Rm d B n) (hB:B'≤B) (hn:n'≤n):Rm d B' n':=⟨h.fail,by have:=h.bytes;omega,by have:=h.names;omega,h.small⟩
theorem Rm.same {d d':ae} {B n:Nat} (h:Rm d B n) (h1:d'.fail=0) (h2:d'.dY=d.dY) (h3:fT d'≤fT d) (h4:d'.now.length≤d.now.length):Rm d' B n:=
 ⟨h1,by rw [h2];have:=h.bytes;omega,by have:=h.names;omega,by rw [h2];exact h.small⟩
theorem Rm.tick {d:ae} {B n:Nat} (h:Rm d B n):Rm (aC d) B n:=h.same (fK h.fail) rfl (Nat.le_refl _) (Nat.le_refl _)
theorem Ba {l l':gF} (f:ByteArray×Nat→Nat) (h:l.Perm l'):(l.map f).sum=(l'.map f).sum:=(h.map f).sum_nat
theorem zH {f:ByteArray×Nat→Nat}:∀ {l l':gF},l.Sublist l'→(l.map f).sum≤(l'.map f).sum
 | _,_,.slnil=>Nat.le_refl _
 | _,_,.cons a h=>by have:=zH (f:=f) h;simp only [List.map_cons,List.sum_cons];omega
 | _,_,.cons_cons a h=>by have:=zH (f:=f) h;simp only [List.map_cons,List.sum_cons];omega
theorem EM {d:ae} {n:ByteArray} {i:Nat} (hi:bQ d.now n=some i):eX d i≤fT d:=by
 have hm:=gy hi
 unfold fT
 have:∀ (l:gF),(n,i)∈l→eX d i≤(l.map (fun x=>eX d x.2)).sum:=by
  intro l
  induction l with
  | nil=>intro h;simp at h
  | cons a r ih=>
   intro h
   simp only [List.map_cons,List.sum_cons]
   rcases List.mem_cons.1 h with e | h
   ·rw [← e];simp only;omega
   ·have:=ih h;omega
 exact this _ hm
theorem size_grow {d:ae} {i:Nat} (hi:i < d.files.length) (x:FileD) {k:Nat} (hx:x.b.length≤eX d i+k):∀ (l:gF),(l.map (·.2)).Nodup→(l.map (fun y=>eX (iE d i x) y.2)).sum≤(l.map (fun y=>eX d y.2)).sum+k
 | [],_=>by simp
 | a::r,hn=>by
  obtain⟨n1,n2⟩:=List.nodup_cons.1 hn
  simp only [List.map_cons,List.sum_cons]
  by_cases e:a.2=i
  ·have h1:eX (iE d i x) a.2≤eX d a.2+k:=by
    unfold eX iE at *
    simp only
    rw [ed hi,if_pos e,e];exact hx
   have h2:(r.map (fun y=>eX (iE d i x) y.2))=(r.map (fun y=>eX d y.2)):=List.map_congr_left (fun y hy=>by
    unfold eX iE
    simp only
    rw [ed hi,if_neg (fun e2=>n1 (List.mem_map.2 ⟨y,hy,e2.trans e.symm⟩))])
   rw [h2];omega
  ·have h1:eX (iE d i x) a.2=eX d a.2:=by
    unfold eX iE
    simp only
    rw [ed hi,if_neg e]
   have:=size_grow hi x hx r n2
   omega
theorem xS {d:ae} {B n:Nat} (hok:aP d) (h:Rm d B n) {nm:ByteArray} (hn:gQ nm=true) {b:List UInt8} (hb:b.length≤B) (h1:bQ d.now nm=none→1≤n) :
  (aH d nm b).2=0∧Rm (aH d nm b).1 (B - b.length) (if bQ d.now nm=none then n - 1 else n)∧(bQ d.now nm≠none→(aH d nm b).1.now=d.now):=by
 have hq:=h.bytes
 have hq2:=h.small
 have hnm:=h.names
 have hroom:jW d (bQ d.now nm) b.length=true:=by
  rw [xK]
  refine⟨by omega,by omega,?_,fun e=>?_⟩
  ·cases e:bQ d.now nm with
   | none=>simp only;omega
   | some i=>have:=EM e;simp only;omega
  ·have:=h1 e;omega
 rcases fE d nm b with ⟨e,h2,he⟩|⟨_,_,_,⟨i,h4,h5⟩|⟨h4,h5⟩⟩
 ·exfalso
  unfold aH at h2
  rw [if_neg (kX h.fail),if_neg (by simp [hn]),if_neg (by simp [hroom])] at h2
  have h3:=congrArg Prod.snd h2
  split at h3 <;> (simp only at h3;omega)
 ·rw [h5,h4]
  have hi:=hok.at h4
  have hsz:fT (je (aC d) i b)≤fT d+b.length:=by
   refine size_grow (d:=aC d) hi _ (k:=b.length) ?_ d.now hok.now.ids
   simp only [eX,List.length_append];exact Nat.le_refl _
  refine⟨rfl,⟨fK h.fail,?_,by simp only [if_neg (by simp:¬ (some i=none))];exact hnm,hq2⟩,fun _=>rfl⟩
  show fT (je (aC d) i b)+(B - b.length)≤d.dY
  omega
 ·rw [h5,h4]
  have hp:=nQ d.now nm d.files.length
  rw [AL h4] at hp
  have hsz:fT (je (bq (dR (aC d)) (.made nm d.files.length)) d.files.length b)≤fT d+b.length:=by
   show ((iQ d.now nm d.files.length).map (fun y=>eX (iE (bq (dR (aC d)) (.made nm d.files.length)) d.files.length _) y.2)).sum≤_
   refine Nat.le_trans (size_grow (d:=bq (dR (aC d)) (.made nm d.files.length)) (by simp [bq,dR,aC]) _ (k:=b.length) ?_ (iQ d.now nm d.files.length) ?_) ?_
   ·simp only [eX,List.length_append];exact Nat.le_refl _
   ·refine (hp.map (·.2)).nodup_iff.2 (List.nodup_cons.2 ⟨fun hm=>?_,hok.now.ids⟩)
    obtain⟨x,hx,e⟩:=List.mem_map.1 hm
    have:=hok.now.lt x hx
    simp only at e;omega
   ·rw [Ba _ hp]
    simp only [List.map_cons,List.sum_cons]
    have e1:eX (bq (dR (aC d)) (.made nm d.files.length)) d.files.length=0:=by
     simp [eX,bq,dR,aC]
    have e2:d.now.map (fun y=>eX (bq (dR (aC d)) (.made nm d.files.length)) y.2)=d.now.map (fun y=>eX d y.2):=List.map_congr_left (fun y hy=>by
     have:=hok.now.lt y hy
     simp only [eX,bq,dR,aC,List.getD_eq_getElem?_getD]
     rw [List.getElem?_append_left this])
    rw [e1,e2];unfold fT;omega
  have:=h1 h4
  refine⟨rfl,⟨fK h.fail,?_,?_,hq2⟩,fun h=>absurd rfl h⟩
  ·show fT (je (bq (dR (aC d)) (.made nm d.files.length)) d.files.length b)+(B - b.length)≤d.dY
   omega
  ·rw [if_pos rfl]
   show (iQ d.now nm d.files.length).length+_≤200
   rw [hp.length_eq,List.length_cons];omega
theorem mK {d:ae} {B n:Nat} (hok:aP d) (h:Rm d B n) {nm:ByteArray} {i:Nat} (hi:bQ d.now nm=some i):(aW d nm).2=0∧Rm (aW d nm).1 B n∧(aW d nm).1.now=d.now:=by
 rw [sM h.fail hi]
 refine⟨rfl,h.same (fK h.fail) rfl ?_ (Nat.le_refl _),rfl⟩
 exact size_set (d:=aC d) (hok.at hi) _ (Nat.le_refl _)
theorem Xy {d:ae} {B n:Nat} (h:Rm d B n):(bE d).2=0∧Rm (bE d).1 B n:=by
 rw [sO h.fail]
 exact⟨rfl,h.same (fK h.fail) rfl (Nat.le_refl _) (Nat.le_refl _)⟩
theorem Qy (d:ae) (n:ByteArray):((dZ d.now n).map (fun y=>eX d y.2)).sum≤fT d:=zH List.filter_sublist
theorem Dk {d:ae} {B n:Nat} (h:Rm d B n) {nm:ByteArray} {i:Nat} (hi:bQ d.now nm=some i):(cZ d nm).2=0∧Rm (cZ d nm).1 B n:=by
 unfold cZ
 rw [if_neg (kX h.fail),hi]
 exact⟨rfl,h.same (fK h.fail) rfl (Qy d nm) (xJ _ _)⟩
theorem Dl {d:ae} {B n:Nat} (hok:aP d) (h:Rm d B n) {a b:ByteArray} {i:Nat} (hi:bQ d.now a=some i) (hb:gQ b=true) (hab:a≠b):(bZ d a b).2=0∧Rm (bZ d a b).1 B n:=by
 unfold bZ
 rw [if_neg (kX h.fail),hi]
 simp only
 rw [if_neg (by simp [hb]),if_neg hab]
 have e:nmDo d.now (.ren a b)=dZ (iQ d.now b i) a:=by simp [nmDo,hi]
 have hdp:(dZ (iQ d.now b i) a).Perm ((b,i)::dZ (dZ d.now b) a):=by
  have:=(nQ d.now b i).filter (fun x=>decide (x.1≠a))
  unfold dZ at this ⊢
  rwa [List.filter_cons,if_pos (by simpa using fun h=>hab h.symm)] at this
 have Zw:d.now.Perm ((a,i)::dZ d.now a):=by
  have hm:=gy hi
  have hnd:d.now.Nodup:=List.Pairwise.imp (fun {a b} hl e=>by subst e;rw [Az] at hl;cases hl) hok.now.row
  refine (List.perm_ext_iff_of_nodup hnd ?_).2 (fun x=>?_)
  ·refine List.nodup_cons.2 ⟨fun hx=>(fV.1 hx).2 rfl,?_⟩
   exact hnd.filter _
  ·rw [List.mem_cons,fV]
   constructor
   ·intro hx
    by_cases ex:x.1=a
    ·left
     have:x.2=i:=Qf (jB.keys hok.now.row) (n:=a) (by rw [← ex];exact hx) hm
     rw [← ex,← this]
    ·exact Or.inr ⟨hx,ex⟩
   ·rintro (rfl | ⟨hx,_⟩)
    ·exact hm
    ·exact hx
 have hsub:(dZ (dZ d.now b) a).Sublist (dZ d.now a):=by
  unfold dZ
  exact (List.filter_sublist (l:=d.now)).filter _
 refine⟨rfl,h.same (fK h.fail) rfl ?_ ?_⟩
 ·show ((nmDo d.now (.ren a b)).map (fun y=>eX d y.2)).sum≤fT d
  rw [e,Ba _ hdp]
  unfold fT
  rw [Ba _ Zw]
  have:=zH (f:=fun y=>eX d y.2) hsub
  simp only [List.map_cons,List.sum_cons];omega
 ·show (nmDo d.now (.ren a b)).length≤d.now.length
  rw [e,hdp.length_eq,Zw.length_eq,List.length_cons,List.length_cons]
  have:=hsub.length_le;omega
theorem sP {d:ae} {B n:Nat} (h:Rm d B n) (nm:ByteArray):(bF nm d).2=0∧Rm (bF nm d).1 B n:=by
 unfold bF
 by_cases hs:(bQ d.now nm).isSome
 ·rw [if_pos hs]
  obtain⟨i,hi⟩:=Option.isSome_iff_exists.1 hs
  exact Dk h hi
 ·rw [if_neg hs];exact⟨rfl,h⟩
theorem Md {m:dw} (h:fM m=true):(ak (eu m)).length≤278:=by
 rw [dD]
 have:(eu m).body=jD m:=rfl
 rw [this,lL]
 have:=(bH.1 h).1.2.2.2.1
 omega
theorem Hu {d:ae} {B n:Nat} (hok:aP d) {m:dw} (hm:fM m=true) (h:Rm d (B+278) (n+1)):(eQ m d).2=0∧Rm (eQ m d).1 B n:=by
 have hl:=Md hm
 obtain⟨a1,a2⟩:=sP h aB
 have a3:=jM hok aB
 have a4:=jN (n:=aB) hok
 have hfresh:eQ m d=bR (bR (bR (bF aB d) (fun d=>aH d aB (ak (eu m)))) (fun d=>aW d aB)) (fun d=>bZ d aB bL):=rfl
 generalize bF aB d=r1 at *
 rw [aV a1] at hfresh
 obtain⟨b1,b2,_⟩:=xS a3 a2 (nm:=aB) (by decide) (b:=ak (eu m)) (by omega) (fun _=>by omega)
 have b3:=iy a3 aB (ak (eu m))
 have b4:=kM a3 (b:=ak (eu m)) (a4 a1) b1
 rw [if_pos (a4 a1)] at b2
 generalize aH r1.1 aB (ak (eu m))=r2 at *
 rw [aV b1] at hfresh
 obtain⟨i,i1,_,_⟩:=b4
 obtain⟨c1,c2,c4⟩:=mK b3 b2 i1
 have c3:=gU b3 aB
 generalize aW r2.1 aB=r3 at *
 rw [aV c1] at hfresh
 rw [hfresh]
 obtain⟨e1,e2⟩:=Dl c3 c2 (a:=aB) (b:=bL) (i:=i) (by rw [c4];exact i1) (by decide) (fun e=>jK e.symm)
 exact⟨e1,e2.le (by omega) (by omega)⟩
theorem xU {d:ae} {B n:Nat} (hok:aP d) {m:dw} (hm:fM m=true) (h:Rm d (B+278) (n+1)):(aK m d).2.1=true∧(aK m d).2.2=0∧Rm (aK m d).1 B n:=by
 obtain⟨a1,a2⟩:=Hu hok hm h
 unfold aK
 rw [if_neg (by simp [hm]),if_neg (by simp [a1])]
 obtain⟨b1,b2⟩:=Xy a2
 exact⟨rfl,b1,b2⟩
theorem tZ {s:Nat} (h:1≤s∧s < 1000000):gQ (ai s)=true:=by
 unfold gQ;rw [pI h];rfl
theorem wD {d:ae} {B n s:Nat} (hok:aP d) (hs:1≤s∧s < 1000000) (h:Rm d B (n+1)):(dK s d).2=0∧Rm (dK s d).1 B n∧aP (dK s d).1∧dU (dK s d).1.now (dK s d).1.files (ai s) [] 0:=by
 obtain⟨a1,a2⟩:=sP h (ai s)
 have a3:=jM hok (ai s)
 have a4:=jN (n:=ai s) hok
 have hb:dK s d=bR (bF (ai s) d) (fun d=>aH d (ai s) []):=rfl
 generalize bF (ai s) d=r1 at *
 rw [aV a1] at hb
 obtain⟨b1,b2,_⟩:=xS a3 a2 (tZ hs) (b:=[]) (by simp) (fun _=>by omega)
 rw [if_pos (a4 a1)] at b2
 rw [hb]
 exact⟨b1,b2.le (by simp) (by omega),iy a3 _ _,kM a3 (a4 a1) b1⟩
theorem Me {d:ae} {l:bK} {Fr:List cB} {s B n:Nat} (h:fD d l.m Fr s) (hr:Rm d (B+278) (n+2)) (hs:l.m.aa.length < 64) (hn:l.m.next < 1000000) :
  (gD (d,l)).2=0∧Rm (gD (d,l)).1.1 B n∧(gD (d,l)).1.2.m=gL l:=by
 obtain⟨_,hm1⟩:=bH.1 h.now.1
 have hn1:=(bH.1 h.now.1).1.2.2.2.2.1
 have hmt:fM (gL l)=true:=by
  obtain⟨⟨v1,v2,s1,s2,n1,n2⟩,hu⟩:=bH.1 h.now.1
  refine bH.2 ⟨⟨v1,v2,by simp [gL],by simp [gL];omega,by simp [gL],by simp [gL];omega⟩,?_⟩
  refine EK ?_ (fun x hx=>?_)
  ·refine List.pairwise_append.2 ⟨qf h.now.1,List.pairwise_singleton _ _,fun a ha b hb=>?_⟩
   simp at hb;subst hb
   exact (dW h.now.1 ha).2.1
  ·rcases List.mem_append.1 hx with hx | hx
   ·have:=dW h.now.1 hx;exact⟨by omega,by simp [gL];omega⟩
   ·simp at hx;subst hx;exact⟨by omega,by simp [gL]⟩
 unfold gD
 simp only
 rw [if_neg (by omega)]
 have e1:gT (fun d=>aW d (bA l)) (d,l)=(((aW d (bA l)).1,l),(aW d (bA l)).2):=rfl
 rw [e1]
 obtain⟨C,L,k,g1,rfl,g3⟩:=h.now.2.2
 obtain⟨i,i1,_,_⟩:=g1.last
 rw [← jL g1.len] at i1
 obtain⟨a1,a2,a3⟩:=mK h.ok hr i1
 have a4:=gU h.ok (bA l)
 generalize aW d (bA l)=r1 at *
 have a1':(((r1.1,l),r1.2):DL×Int).2=0:=a1
 rw [aV a1']
 have e2:gT (dK l.m.next) (r1.1,l)=(((dK l.m.next r1.1).1,l),(dK l.m.next r1.1).2):=rfl
 rw [e2]
 obtain⟨b1,b2,b3,b4⟩:=wD a4 ⟨hn1,hn⟩ (n:=n+1) a2
 generalize dK l.m.next r1.1=r2 at *
 have b1':(((r2.1,l),r2.2):DL×Int).2=0:=b1
 rw [aV b1']
 have e3:gT (fun d=>aW d (ai l.m.next)) (r2.1,l)=(((aW r2.1 (ai l.m.next)).1,l),(aW r2.1 (ai l.m.next)).2):=rfl
 rw [e3]
 obtain⟨j,j1,_,_⟩:=b4
 obtain⟨c1,c2,c3⟩:=mK b3 b2 j1
 have c4:=gU b3 (ai l.m.next)
 generalize aW r2.1 (ai l.m.next)=r3 at *
 have c1':(((r3.1,l),r3.2):DL×Int).2=0:=c1
 rw [aV c1']
 obtain⟨d1,d2,d3⟩:=xU c4 hmt c2
 unfold dI
 simp only
 rw [if_pos d1]
 exact⟨d2,d3,rfl⟩
theorem Dm {d:ae} {l:bK} {Fr:List cB} {s B n:Nat} (h:fD d l.m Fr s) (hl:l.loose=false) (kind:Int) (body:List UInt8) (hr:Rm d (B+278+(16+body.length)) (n+2)) (hs:l.m.aa.length < 64) (hn:l.m.next < 1000000) (hp:gq kind l.m.aj body.length=0) :
  (bW kind body (d,l)).2=0∧Rm (bW kind body (d,l)).1.1 B n∧(bW kind body (d,l)).1.2.m.aa.length≤l.m.aa.length+1∧(bW kind body (d,l)).1.2.m.next≤l.m.next+1:=by
 have hset:aY (d,l)=((d,l),0):=by unfold aY;simp [hl]
 unfold bW
 simp only
 rw [if_neg (by simp [hp]),hset,aV (r:=((d,l),(0:Int))) rfl]
 simp only
 have hfl:(ak ⟨kind.toNat,l.m.aj,body⟩).length=16+body.length:=dD _
 generalize Ho:(if lK l (bytesD d (bA l)) (ak ⟨kind.toNat,l.m.aj,body⟩).length=true then ((d,l),(0:Int)) else gD (d,l))=r2
 have h5:r2.2=0∧Rm r2.1.1 (B+(16+body.length)) n∧r2.1.2.m.aa.length≤l.m.aa.length+1∧r2.1.2.m.next≤l.m.next+1∧r2.1.2.m.aj=l.m.aj∧∃ Cq s',fD r2.1.1 r2.1.2.m Cq s':=by
  rw [← Ho]
  split
  ·exact⟨rfl,hr.le (by omega) (by omega),by simp only;omega,by simp only;omega,rfl,Fr,s,h⟩
  ·obtain⟨t1,t2,t3⟩:=Me (B:=B+(16+body.length)) (n:=n) h (by rw [show B+(16+body.length)+278=B+278+(16+body.length) by omega];exact hr) hs hn
   obtain⟨_,u2,u3⟩:=AX h hl
   refine⟨t1,t2,by rw [t3];simp [gL],by rw [t3];simp [gL],u2,?_⟩
   rcases u3 with ⟨_,_,u6⟩|⟨u4,_⟩
   ·exact⟨_,_,u6⟩
   ·exact absurd t1 u4
 clear Ho
 obtain⟨h6,h7,h8,h9,h10,Cq,s',h11⟩:=h5
 rw [aV h6]
 unfold gT
 simp only
 obtain⟨C,L,k,g1,_,g3⟩:=h11.now.2.2
 obtain⟨i,i1,_,_⟩:=g1.last
 rw [← jL g1.len] at i1
 have hsn:gQ (bA r2.1.2)=true:=by
  rw [jL g1.len]
  exact tZ (h11.valid _ (iT (by rw [g1.len];omega)))
 obtain⟨w1,w2,_⟩:=xS h11.ok h7 hsn (b:=ak ⟨kind.toNat,l.m.aj,body⟩) (by rw [hfl];omega) (fun e=>by rw [i1] at e;cases e)
 rw [if_neg (by rw [i1];simp)] at w2
 exact⟨w1,w2.le (by rw [hfl];omega) (Nat.le_refl _),h8,h9⟩
/-! A new log. -/
theorem JS {d:ae} {m:dw} {Fr:List cB} {s:Nat} (hok:aP d) (h':kL d.now d.files m.aa m.aj Fr s) (h0:(aK m d).2.2=0) (hc:(aK m d).2.1=true):fD (aK m d).1 m Fr s:=by
 unfold aK at h0 hc ⊢
 by_cases hm:fM m=false
 ·rw [if_pos hm] at hc;cases hc
 have hm':fM m=true:=by simpa using hm
 rw [if_neg hm] at h0 hc ⊢
 have nf:¬ (fun n=>n≠aB) aB:=fun h=>h rfl
 have hk:∀ (aa:List Nat) n,Mine aa n→n≠aB:=fun aa n hn e=>vg (e ▸ hn)
 have o1:=kW (K:=fun n=>n≠aB) hok nf
 have k1:=jM hok aB
 have n1:=jN (n:=aB) hok
 have hfresh:eQ m d=bR (bR (bR (bF aB d) (fun d=>aH d aB (ak (eu m)))) (fun d=>aW d aB)) (fun d=>bZ d aB bL):=rfl
 by_cases hz:(eQ m d).2≠0
 ·rw [if_pos hz] at hc;cases hc
 rw [if_neg hz] at h0 ⊢
 simp only at h0 ⊢
 generalize bF aB d=r1 at *
 by_cases e1:r1.2=0
 case neg=>rw [bz e1,bz e1,bz e1] at hfresh;rw [hfresh] at hz;exact absurd e1 hz
 rw [aV e1] at hfresh
 have o2:=o1.trans (dJ.append (K:=fun n=>n≠aB) k1 nf (ak (eu m)))
 have k2:=iy k1 aB (ak (eu m))
 have n2:=kM k1 (b:=ak (eu m)) (n1 e1)
 generalize aH r1.1 aB (ak (eu m))=r2 at *
 by_cases e2:r2.2=0
 case neg=>rw [bz e2,bz e2] at hfresh;rw [hfresh] at hz;exact absurd e2 hz
 rw [aV e2] at hfresh
 have o3:=o2.trans (dJ.sync (K:=fun n=>n≠aB) k2 nf)
 have k3:=gU k2 aB
 have n3:=zG k2 (n2 e2)
 generalize aW r2.1 aB=r3 at *
 by_cases e3:r3.2=0
 case neg=>rw [bz e3] at hfresh;rw [hfresh] at hz;exact absurd e3 hz
 rw [aV e3] at hfresh
 have g3:kL r3.1.now r3.1.files m.aa m.aj Fr s:=h'.congr (fun n hn=>o3.names n (hk _ n hn)) (fun n i hn hi=>o3.files n i (hk _ n hn) hi)
 obtain⟨x,x1,x2,x3⟩:=n3 e3
 rcases jr r3.1 aB bL with ⟨e,h4,he⟩|⟨_,_,_,⟨h4,_⟩|⟨_,h4⟩⟩
 ·rw [h4] at hfresh;rw [hfresh] at hz;simp only at hz;omega
 ·exact absurd h4.symm jK
 ·have k4:=rq k3 aB bL
  rw [h4] at hfresh k4
  rw [hfresh] at h0 ⊢
  simp only at k4 h0 ⊢
  have hat:∀ n,n≠aB→bQ (bq (aC r3.1) (.ren aB bL)).now n=if n=bL then some x else bQ r3.1.now n:=fun n hn=>by
   show bQ (nmDo r3.1.now (.ren aB bL)) n=_
   have e:nmDo r3.1.now (.ren aB bL)=dZ (iQ r3.1.now bL x) aB:=by simp only [nmDo,x1]
   rw [e,nR (mi k3.now.row _ _),if_neg hn,qc k3.now.row]
  have Ul:Holds (bq (aC r3.1) (.ren aB bL)).now (bq (aC r3.1) (.ren aB bL)).files m Fr s:=by
   refine⟨hm',⟨x,by rw [hat _ jK,if_pos rfl],x2,x3⟩,?_⟩
   obtain⟨C,L,k,c1,c2,c3⟩:=g3
   have hsn:∀ i,bQ (bq (aC r3.1) (.ren aB bL)).now (ai i)=bQ r3.1.now (ai i):=fun i=>by
    rw [hat _ (pJ _),if_neg (lM _)]
   exact⟨C,L,k,⟨c1.len,fun i hi=>(c1.closed i hi).congr (hsn _) (fun _ _=>rfl),c1.last.congr (hsn _) (fun _ _=>rfl),c1.few,c1.ok⟩,c2,c3⟩
  rcases gz (bq (aC r3.1) (.ren aB bL)) with h6 | ⟨_,h6⟩
  ·rw [h6] at h0;simp at h0
  ·rw [h6];exact zF (bY k4) Ul
theorem Dn {d:ae} {B n:Nat} (hok:aP d) (hr:Rm d (B+278) (n+2)) (hh:bQ d.now bL=none) {v:Nat} (hv:1≤v∧v≤3) (size:Int) :
  ∃ d',cu v size d=(d',some ⟨sized size,firstM v,false⟩,0)∧fD d' (firstM v) [] 0∧Rm d' B n:=by
 have hmt:fM (firstM v)=true:=by
  refine bH.2 ⟨⟨hv.1,hv.2,by simp [firstM],by simp [firstM],by simp [firstM],by simp [firstM]⟩,?_⟩
  simp [firstM,upB]
 obtain⟨b1,b2,b3,b4⟩:=wD hok (s:=1) (by omega) (n:=n+1) hr
 have b4':=b4
 obtain⟨j,j1,_,_⟩:=b4'
 obtain⟨c1,c2,c3⟩:=mK b3 b2 j1
 have c4:=gU b3 (ai 1)
 have c5:=zG b3 b4 c1
 obtain⟨d1,d2,d3⟩:=xU c4 hmt c2
 have hF:=JS (m:=firstM v) (Fr:=[]) (s:=0) c4 ⟨[],[],0,⟨rfl,fun i hi=>by simp at hi,c5,Nat.le_refl _,by simp⟩,by simp,by simp⟩ d2 d1
 refine⟨_,?_,hF,d3⟩
 unfold cu
 rw [if_neg (by omega),hh]
 simp only [Option.isSome_none,Bool.false_eq_true,if_false,Int.toNat_natCast]
 rw [aV (r:=dK 1 d) b1,aV (r:=aW (dK 1 d).1 (ai 1)) c1]
 simp only
 rw [if_neg (by rw [d2];simp)]
end Go.Proofs.YtogclkhpbjfadaaGreat
