/- .. -/
import Derived.Test.YtanhdliaaccacaaGreatUB9
import Derived.Test.YtanhdliaaccacaaGreatUB8
import Derived.Test.YtanhdliaaccacaaGreatUB10
namespace Go.Proofs.YtanhdliaaccacaaGreat
open Go.RowKit
set_option linter.unusedVariables false
set_option maxHeartbeats 64000000
set_option maxRecDepth 100000
theorem um {a b k:Nat} (h:zo a k=zo b k):a / 10 ^ k % 10=b / 10 ^ k % 10:=by
 have:=congrArg UInt8.toNat h
 simp only [zo,UInt8.toNat_ofNat'] at this
 have h1:=Nat.mod_lt (a / 10 ^ k) (show 10 > 0 by omega)
 have h2:=Nat.mod_lt (b / 10 ^ k) (show 10 > 0 by omega)
 omega
theorem oO {s:Nat} (h:1≤s∧s < 1000000):ai s=⟨#[115,zo s 5,zo s 4,zo s 3,zo s 2,zo s 1,zo s 0]⟩:=if_neg (by omega)
theorem sP {s:Nat} (h:¬ (1≤s∧s < 1000000)):ai s=ByteArray.empty:=if_pos (by omega)
theorem mX {a b:Nat} (ha:1≤a∧a < 1000000) (hb:1≤b∧b < 1000000) (h:ai a=ai b):a=b:=by
 rw [oO ha,oO hb] at h
 have h2:=congrArg (fun x=>x.data.toList) h
 simp only [List.cons.injEq] at h2
 obtain⟨-,h5,h4,h3,h2,h1,h0,-⟩:=h2
 have e5:=um h5
 have e4:=um h4
 have e3:=um h3
 have e2:=um h2
 have e1:=um h1
 have e0:=um h0
 simp only [Nat.reducePow] at e5 e4 e3 e2 e1 e0
 omega
theorem pI {s:Nat} (h:1≤s∧s < 1000000):(ai s).size=7:=by rw [oO h];rfl
theorem yQ (s:Nat):(ai s).size=7∨(ai s).size=0:=by
 by_cases h:1≤s∧s < 1000000
 ·exact Or.inl (pI h)
 ·right;rw [sP h];rfl
theorem lK (s:Nat):ai s≠bG:=fun e=>by
 have h1:bG.size=1:=rfl
 have:=yQ s
 rw [e] at this;omega
theorem pJ (s:Nat):ai s≠az:=fun e=>by
 have h1:az.size=5:=rfl
 have:=yQ s
 rw [e] at this;omega
theorem je:bG≠az:=fun e=>by
 have h1:az.size=5:=rfl
 have h2:bG.size=1:=rfl
 rw [e] at h2;omega
theorem Hz {b:Nat}:∀ {l:List Nat} {was:Nat},upB b was l=true→l.Pairwise (· < ·)
 | [],_,_=>List.Pairwise.nil
 | s::r,was,h=>by
  simp only [upB,Bool.and_eq_true,decide_eq_true_eq] at h
  exact List.pairwise_cons.2 ⟨fun x hx=>(Ev h.2 x hx).1,Hz h.2⟩
theorem qh {m:cZ} (h:fJ m=true):m.aa.Pairwise (· < ·):=Hz (bQ.1 h).2
theorem EC {b:Nat}:∀ {l:List Nat} {was:Nat},l.Pairwise (· < ·)→(∀ s∈l,was < s∧s < b)→upB b was l=true
 | [],_,_,_=>rfl
 | s::r,was,h,hb=>by
  obtain⟨h1,h2⟩:=List.pairwise_cons.1 h
  simp only [upB,Bool.and_eq_true,decide_eq_true_eq]
  exact⟨hb s (by simp),EC h2 (fun x hx=>⟨h1 x hx,(hb x (List.mem_cons_of_mem _ hx)).2⟩)⟩
def Mine (aa:List Nat) (n:ByteArray):Prop:=n=bG∨∃ s∈aa,n=ai s
theorem rE {aa:List Nat}:¬ Mine aa az:=by
 rintro (h | ⟨s,_,h⟩)
 ·exact je h.symm
 ·exact pJ s h.symm
theorem Ka {aa:List Nat} (h:∀ s∈aa,1≤s∧s < 1000000):¬ Mine aa ByteArray.empty:=by
 rintro (e | ⟨s,hs,e⟩)
 ·have:bG.size=1:=rfl
  rw [← e] at this;exact absurd this (by decide)
 ·have:=pI (h s hs)
  rw [← e] at this;exact absurd this (by decide)
theorem lL {aa:List Nat} (h:∀ s∈aa,1≤s∧s < 1000000) {x:Nat} (hx:x ∉ aa):¬ Mine aa (ai x):=by
 by_cases hv:1≤x∧x < 1000000
 ·rintro (e | ⟨s,hs,e⟩)
  ·exact lK x e
  ·exact hx (by rw [mX hv (h s hs) e];exact hs)
 ·rw [sP hv];exact Ka h
def dW (N:gI) (fs:List FileD) (n:ByteArray) (b:List UInt8) (s:Nat):Prop:=∃ i,bP N n=some i∧(fs.getD i default).b=b∧s≤(fs.getD i default).sure
theorem dW.congr {N N':gI} {fs fs':List FileD} {n:ByteArray} {b:List UInt8} {s:Nat} (h:dW N fs n b s) (hN:bP N' n=bP N n) (hf:∀ i,bP N n=some i→fs'.getD i default=fs.getD i default):dW N' fs' n b s:=by
 obtain⟨i,h1,h2,h3⟩:=h
 exact⟨i,by rw [hN,h1],by rw [hf i h1];exact h2,by rw [hf i h1];exact h3⟩
theorem dW.le {N:gI} {fs:List FileD} {n:ByteArray} {b:List UInt8} {s s':Nat} (h:dW N fs n b s) (hs:s'≤s):dW N fs n b s':=by
 obtain⟨i,h1,h2,h3⟩:=h
 exact⟨i,h1,h2,Nat.le_trans hs h3⟩
theorem dW.read {d:ae} {n:ByteArray} {b:List UInt8} {s:Nat} (h:dW d.now d.files n b s):iy d n=some b:=by
 obtain⟨i,h1,h2,h3⟩:=h
 unfold iy;rw [h1,Option.map_some,h2]
theorem dW.Kb {N:gI} {fs:List FileD} {n:ByteArray} {i:Nat} (hi:i < fs.length) (h0:bP N n=some i) (x:FileD):dW N (fs.set i x) n x.b x.sure:=
 ⟨i,h0,by rw [eu hi,if_pos rfl],by rw [eu hi,if_pos rfl];exact Nat.le_refl _⟩
theorem dW.ED {N:gI} {fs:List FileD} {n n0:ByteArray} {b:List UInt8} {s k i:Nat} (h:dW N fs n b s) (hok:lH N k) (hi:i < fs.length) (h0:bP N n0=some i) (hne:n≠n0) (x:FileD):dW N (fs.set i x) n b s:=by
 refine h.congr rfl (fun j hj=>?_)
 rw [eu hi,if_neg]
 rintro rfl
 exact hne (Qt hok.ids (gD hj) (gD h0))
structure mr (N:gI) (fs:List FileD) (aa:List Nat) (ak:Nat) (C:List (List cz)) (L:List cz) (k:Nat):Prop where
 len:aa.length=C.length+1
 closed:∀ i,i < C.length→dW N fs (ai (aa.getD i 0)) (aV (C.getD i [])) (aV (C.getD i [])).length
 last:dW N fs (ai (aa.getD C.length 0)) (aV L) (aV (L.take k)).length
 few:k≤L.length
 ok:∀ f∈C.flatten++L,ji f∧f.ak=ak
def jf (N:gI) (fs:List FileD) (aa:List Nat) (ak:Nat) (Fr:List cz) (s:Nat):Prop:=∃ C L k,mr N fs aa ak C L k∧Fr=C.flatten++L∧s≤C.flatten.length+k
def Holds (N:gI) (fs:List FileD) (m:cZ) (Fr:List cz) (s:Nat):Prop:=fJ m=true∧dW N fs bG (aj (dP m)) (aj (dP m)).length∧jf N fs m.aa m.ak Fr s
theorem iO {l:List Nat} {i:Nat} (h:i < l.length):l.getD i 0∈l:=by
 rw [List.getD_eq_getElem?_getD,List.getElem?_eq_getElem h];simp
theorem mr.congr {N N':gI} {fs fs':List FileD} {aa:List Nat} {ak:Nat} {C:List (List cz)} {L:List cz} {k:Nat} (h:mr N fs aa ak C L k) (hN:agree (Mine aa) N' N) (hf:∀ n i,Mine aa n→bP N n=some i→fs'.getD i default=fs.getD i default):mr N' fs' aa ak C L k:=by
 have hm:∀ i,i < C.length+1→Mine aa (ai (aa.getD i 0)):=fun i hi=>Or.inr ⟨_,iO (by rw [h.len];exact hi),rfl⟩
 exact⟨h.len,fun i hi=>(h.closed i hi).congr (hN _ (hm i (by omega))) (fun j hj=>hf _ j (hm i (by omega)) hj),h.last.congr (hN _ (hm _ (by omega))) (fun j hj=>hf _ j (hm _ (by omega)) hj),h.few,h.ok⟩
theorem jf.congr {N N':gI} {fs fs':List FileD} {aa:List Nat} {ak:Nat} {Fr:List cz} {s:Nat} (h:jf N fs aa ak Fr s) (hN:agree (Mine aa) N' N) (hf:∀ n i,Mine aa n→bP N n=some i→fs'.getD i default=fs.getD i default):jf N' fs' aa ak Fr s:=by
 obtain⟨C,L,k,h1,h2,h3⟩:=h
 exact⟨C,L,k,h1.congr hN hf,h2,h3⟩
theorem Holds.congr {N N':gI} {fs fs':List FileD} {m:cZ} {Fr:List cz} {s:Nat} (h:Holds N fs m Fr s) (hN:agree (Mine m.aa) N' N) (hf:∀ n i,Mine m.aa n→bP N n=some i→fs'.getD i default=fs.getD i default):Holds N' fs' m Fr s:=
 ⟨h.1,h.2.1.congr (hN _ (Or.inl rfl)) (fun j hj=>hf _ j (Or.inl rfl) hj),h.2.2.congr hN hf⟩
theorem jf.le {N:gI} {fs:List FileD} {aa:List Nat} {ak:Nat} {Fr:List cz} {s s':Nat} (h:jf N fs aa ak Fr s) (hs:s'≤s):jf N fs aa ak Fr s':=by
 obtain⟨C,L,k,h1,h2,h3⟩:=h
 exact⟨C,L,k,h1,h2,Nat.le_trans hs h3⟩
theorem Holds.le {N:gI} {fs:List FileD} {m:cZ} {Fr:List cz} {s s':Nat} (h:Holds N fs m Fr s) (hs:s'≤s):Holds N fs m Fr s':=⟨h.1,h.2.1,h.2.2.le hs⟩
theorem jf.zJ {N:gI} {fs:List FileD} {aa:List Nat} {ak:Nat} {Fr:List cz} {s:Nat} (h:jf N fs aa ak Fr s):s≤Fr.length:=by
 obtain⟨C,L,k,h1,rfl,h3⟩:=h
 have:=h1.few
 rw [List.length_append];omega
theorem jf.frames {N:gI} {fs:List FileD} {aa:List Nat} {ak:Nat} {Fr:List cz} {s:Nat} (h:jf N fs aa ak Fr s):∀ f∈Fr,ji f∧f.ak=ak:=by
 obtain⟨C,L,k,h1,rfl,h3⟩:=h
 exact h1.ok
structure lM (d:ae) (m:cZ) (Fr:List cz):Prop where
 ok:aO d
 may:fJ m=true
 head:dW d.now d.files bG (aj (dP m)) (aj (dP m)).length
 aa:∃ (C:List (List cz)) (L:List cz) (b:List UInt8),m.aa.length=C.length+1∧(∀ i,i < C.length→dW d.now d.files (ai (m.aa.getD i 0)) (aV (C.getD i [])) (aV (C.getD i [])).length) ∧
  dW d.now d.files (ai (m.aa.getD C.length 0)) b 0∧(bO b).1=L∧(bO b).2.1=(aV L).length∧aV L <+: b∧Fr=C.flatten++L∧∀ f∈C.flatten++L,ji f∧f.ak=m.ak
/-! A crash. -/
theorem qi {i:Nat}:∀ (N:gI) (fs:List FileD) (p:List UInt8),(∀ x∈N,x.2 < fs.length)→(∀ x∈N,x.2≠i)→(crashFiles N fs p).getD i default=fs.getD i default
 | [],_,_,_,_=>rfl
 | x::r,fs,p,hl,hn=>by
  unfold crashFiles
  rw [qi r _ _ (fun y hy=>by rw [List.length_set];exact hl y (List.mem_cons_of_mem _ hy)) (fun y hy=>hn y (List.mem_cons_of_mem _ hy)),eu (hl x (by simp)),if_neg (fun e=>hn x (by simp) e.symm)]
theorem uH:∀ (N:gI) (fs:List FileD) (p:List UInt8),(N.map (·.2)).Nodup→(∀ x∈N,x.2 < fs.length)→∀ x∈N,∃ j,j≤(fs.getD x.2 default).b.length - (fs.getD x.2 default).sure∧(crashFiles N fs p).getD x.2 default=Az (fs.getD x.2 default) j
 | [],_,_,_,_,x,hx=>by simp at hx
 | y::r,fs,p,hn,hl,x,hx=>by
  obtain⟨n1,n2⟩:=List.nodup_cons.1 hn
  have hl':∀ z∈r,z.2 < (fs.set y.2 (Az (fs.getD y.2 default) (pickN p ((fs.getD y.2 default).b.length - (fs.getD y.2 default).sure)))).length:=fun z hz=>by rw [List.length_set];exact hl z (List.mem_cons_of_mem _ hz)
  unfold crashFiles
  rcases List.mem_cons.1 hx with rfl | hx
  ·refine⟨_,qf p _,?_⟩
   rw [qi r _ _ hl' (fun z hz e=>n1 (List.mem_map.2 ⟨z,hz,e⟩)),eu (hl x (by simp)),if_pos rfl]
  ·obtain⟨j,h1,h2⟩:=uH r (fs.set y.2 (Az (fs.getD y.2 default) (pickN p ((fs.getD y.2 default).b.length - (fs.getD y.2 default).sure)))) p.tail n2 hl' x hx
   have hne:x.2≠y.2:=fun e=>n1 (by simp only [← e];exact List.mem_map_of_mem (f:=(·.2)) hx)
   rw [eu (hl y (by simp)),if_neg hne] at h1 h2
   exact⟨j,h1,h2⟩
theorem dW.qj {N:gI} {fs:List FileD} {n:ByteArray} {b:List UInt8} {s:Nat} (h:dW N fs n b s) (hok:lH N fs.length) (hf:∀ f∈fs,f.b.length≤1048576∧f.sure≤f.b.length) (p:List UInt8):∃ t,s≤t∧t≤b.length∧dW N (crashFiles N fs p) n (b.take t) t:=by
 obtain⟨i,h1,h2,h3⟩:=h
 have hm:=gD h1
 obtain⟨j,j1,j2⟩:=uH N fs p hok.ids hok.lt _ hm
 simp only at j1 j2
 have hs:=(hf _ (jI (hok.lt _ hm))).2
 simp only at hs
 rw [h2] at j1 hs
 refine⟨(fs.getD i default).sure+j,by omega,by omega,i,h1,?_,?_⟩
 ·rw [j2];simp only [Az];rw [h2]
 ·rw [j2];simp [Az]
theorem dW.AV {N:gI} {fs:List FileD} {n:ByteArray} {b:List UInt8} (h:dW N fs n b b.length) (hok:lH N fs.length) (hf:∀ f∈fs,f.b.length≤1048576∧f.sure≤f.b.length) (p:List UInt8):dW N (crashFiles N fs p) n b b.length:=by
 obtain⟨t,h1,h2,h3⟩:=h.qj hok hf p
 obtain rfl:t=b.length:=by omega
 rwa [List.take_length] at h3
theorem jU (d:ae) (p:List UInt8):nI d (iI d p):=⟨pickN p d.ch.length,qf p _,rfl⟩
theorem Holds.qj {d:ae} {m:cZ} {Fr:List cz} {s:Nat} (hok:aO d) (p:List UInt8) (h:Holds (iI d p) d.files m Fr s):∃ j,s≤j∧j≤Fr.length∧lM (gz d p) m (Fr.take j):=by
 obtain⟨hm,hh,C,L,k,h1,rfl,h3⟩:=h
 have hn:=pz hok p
 have hcl:∀ i,i < C.length→dW (gz d p).now (gz d p).files (ai (m.aa.getD i 0)) (aV (C.getD i [])) (aV (C.getD i [])).length:=fun i hi=>(h1.closed i hi).AV hn hok.file _
 obtain⟨t,t1,t2,t3⟩:=h1.last.qj hn hok.file p.tail
 obtain⟨j,j0,j1,j2,j3,j4⟩:=JI (fun f hf=>(h1.ok f (List.mem_append_right _ hf)).1) (List.take_prefix t (aV L))
 have hkj:k≤j:=j4 k h1.few (by rw [List.length_take];omega)
 refine⟨C.flatten.length+j,by omega,by rw [List.length_append];omega,De hok p,hm,hh.AV hn hok.file _,C,L.take j,(aV L).take t,h1.len,hcl,t3.le (Nat.zero_le _),j1,j2,j3,?_,?_⟩
 ·rw [List.take_append,List.take_of_length_le (by omega)]
  congr 2;omega
 ·intro f hf
  refine h1.ok f ?_
  rcases List.mem_append.1 hf with hf | hf
  ·exact List.mem_append_left _ hf
  ·exact List.mem_append_right _ (List.mem_of_mem_take hf)
/-! An opening. -/
theorem Di:∀ (l:List Nat) (j:Nat),(mW l).drop (4 * j)=mW (l.drop j)
 | _,0=>rfl
 | [],j+1=>by simp [mW]
 | x::r,j+1=>by
  have e:mW (x::r)=be x 4++mW r:=rfl
  rw [e,show 4 * (j+1)=4+4 * j by omega,← List.drop_drop,List.drop_left' (bf _ _),Di r j]
  rfl
theorem Ms {m:cZ} (h:fJ m=true):bE (aj (dP m))=(m,0):=by
 have ht:=nE (Xw h) []
 rw [List.append_nil] at ht
 obtain⟨⟨v1,v2,s1,s2,n1,n2⟩,_⟩:=bQ.1 h
 have hb:(dP m).body=be m.next 4++be m.aa.length 2++mW m.aa:=rfl
 have x4:(be m.next 4++be m.aa.length 2++mW m.aa).take 4=be m.next 4:=by rw [List.append_assoc,List.take_left' (bf _ _)]
 have x6:((be m.next 4++be m.aa.length 2++mW m.aa).drop 4).take 2=be m.aa.length 2:=by rw [List.append_assoc,List.drop_left' (bf _ _),List.take_left' (bf _ _)]
 have xs:∀ j,(be m.next 4++be m.aa.length 2++mW m.aa).drop (6+4 * j)=mW (m.aa.drop j):=fun j=>by
  rw [← List.drop_drop,List.drop_left' (by simp [bf]),Di]
 have hl:(be m.next 4++be m.aa.length 2++mW m.aa).length=6+4 * m.aa.length:=by simp [bf,sM];omega
 have hsg:(List.range m.aa.length).map (fun j=>num ((mW (m.aa.drop j)).take 4))=m.aa:=by
  apply List.ext_getElem (by simp)
  intro j h1 h2
  simp only [List.getElem_map,List.getElem_range]
  have hj:m.aa.drop j=m.aa[j]::m.aa.drop (j+1):=List.drop_eq_getElem_cons h2
  have e:mW (m.aa.drop j)=be m.aa[j] 4++mW (m.aa.drop (j+1)):=by rw [hj];rfl
  rw [e,List.take_left' (bf _ _),qP]
  have:=(dY h (List.getElem_mem h2)).2.2
  omega
 unfold bE
 rw [ht]
 simp only
 have hk:(dP m).kind=100:=rfl
 have hv:(dP m).ak=m.ak:=rfl
 rw [if_neg (by simp),if_neg (by rw [hk];simp),if_neg (by rw [hv];omega),hb,x4,x6,hl,qP (width:=4) (by omega),qP (width:=2) (by omega),hv]
 simp only [xs,hsg]
 have e:(⟨m.ak,m.next,m.aa⟩:cZ)=m:=rfl
 rw [e,if_pos ⟨trivial,h⟩]
theorem sQ {σ:Type} (each:σ→cz→σ×Int) (ak:Nat):∀ (a b:List cz) (s:σ),tellAll each ak (a++b) s=if (tellAll each ak a s).2≠0 then tellAll each ak a s else tellAll each ak b (tellAll each ak a s).1
 | [],b,s=>by simp [tellAll]
 | f::r,b,s=>by
  have e:∀ x,tellAll each ak (f::x) s=if f.ak≠ak then (s,3) else if (each s f).2≠0 then each s f else tellAll each ak x (each s f).1:=fun _=>rfl
  rw [List.cons_append,e,e]
  by_cases h1:f.ak≠ak
  ·simp only [if_pos h1];simp
  ·simp only [if_neg h1]
   by_cases h2:(each s f).2≠0
   ·simp only [if_pos h2]
   ·simp only [if_neg h2];exact sQ each ak r b _
theorem AX {σ:Type} (each:σ→cz→σ×Int) {d:ae} {m:cZ} {C:List (List cz)} {L:List cz} {b:List UInt8} (hl:m.aa.length=C.length+1)
  (hc:∀ i,i < C.length→iy d (ai (m.aa.getD i 0))=some (aV (C.getD i []))) (hb:iy d (ai (m.aa.getD C.length 0))=some b) (h1:(bO b).1=L) (hok:∀ f∈C.flatten++L,ji f) :
  ∀ (k i n:Nat) (s:σ),i+k=C.length+1→1≤k→scanAll each d m k i n s=if (tellAll each m.ak ((C.drop i).flatten++L) s).2≠0 then ((tellAll each m.ak ((C.drop i).flatten++L) s).1,0,(tellAll each m.ak ((C.drop i).flatten++L) s).2) else ((tellAll each m.ak ((C.drop i).flatten++L) s).1,(bO b).2.1,0)
 | 0,i,n,s,hk,h0=>by omega
 | k+1,i,n,s,hk,_=>by
  unfold scanAll
  by_cases hi:i < C.length
  ·have hg:C.drop i=C.getD i []::C.drop (i+1):=by
    rw [List.drop_eq_getElem_cons hi,List.getD_eq_getElem?_getD,List.getElem?_eq_getElem hi];rfl
   have hfo:∀ f∈C.getD i [],ji f:=fun f hf=>hok f (List.mem_append_left _ (List.mem_flatten.2 ⟨_,by rw [List.getD_eq_getElem?_getD,List.getElem?_eq_getElem hi];simp,hf⟩))
   have e:scanSeg each d m i s=if (tellAll each m.ak (C.getD i []) s).2≠0 then ((tellAll each m.ak (C.getD i []) s).1,0,(tellAll each m.ak (C.getD i []) s).2) else ((tellAll each m.ak (C.getD i []) s).1,(aV (C.getD i [])).length,0):=by
    unfold scanSeg
    rw [hc i hi]
    simp only
    rw [uT hfo,if_neg (by simp)]
   rw [e,hg,List.flatten_cons,List.append_assoc,sQ]
   by_cases h2:(tellAll each m.ak (C.getD i []) s).2≠0
   ·simp only [if_pos h2]
   ·simp only [if_neg h2]
    rw [if_neg (by simp)]
    exact AX each hl hc hb h1 hok k (i+1) _ _ (by omega) (by omega)
  ·obtain rfl:i=C.length:=by omega
   obtain rfl:k=0:=by omega
   have e:scanSeg each d m C.length s=if (tellAll each m.ak L s).2≠0 then ((tellAll each m.ak L s).1,0,(tellAll each m.ak L s).2) else ((tellAll each m.ak L s).1,(bO b).2.1,0):=by
    unfold scanSeg
    rw [hb]
    simp only
    rw [if_neg (by omega),h1]
   rw [e,List.drop_length]
   simp only [List.flatten_nil,List.nil_append]
   by_cases h2:(tellAll each m.ak L s).2≠0
   ·simp only [if_pos h2]
   ·simp only [if_neg h2];rw [if_neg (by simp)];rfl
theorem jJ {l:bI} {n:Nat} (h:l.m.aa.length=n+1):bz l=ai (l.m.aa.getD n 0):=by
 unfold bz
 congr 1
 rw [List.getLastD_eq_getLast?,List.getLast?_eq_getElem?,List.getD_eq_getElem?_getD,h,Nat.add_sub_cancel]
structure eZ (d:ae) (m:cZ) (Fr:List cz) (s:Nat):Prop where
 ok:aO d
 now:Holds d.now d.files m Fr s
 st:∀ N,nI d N→agree (Mine m.aa) N d.now
structure Loose (d:ae) (m:cZ) (Fr:List cz) (s:Nat) (mD:List cz) (s0:Nat):Prop where
 ok:aO d
 now:Holds d.now d.files m Fr s
 st:∀ N,nI d N→agree (Mine m.aa) N d.now∨∃ m0,Holds N d.files m0 mD s0
def iB (d:ae) (l:bI) (Fr:List cz) (s:Nat) (mD:List cz) (s0:Nat):Prop:=(l.loose=false∧eZ d l.m Fr s)∨(l.loose=true∧Loose d l.m Fr s mD s0)
theorem Holds.on {d:ae} {m:cZ} {Fr:List cz} {s:Nat} (hok:aO d) (h:Holds d.now d.files m Fr s):lM d m Fr:=by
 obtain⟨hm,hh,C,L,k,h1,rfl,h3⟩:=h
 have hL:∀ f∈L,ji f:=fun f hf=>(h1.ok f (List.mem_append_right _ hf)).1
 refine⟨hok,hm,hh,C,L,aV L,h1.len,h1.closed,h1.last.le (Nat.zero_le _),by rw [uT hL],by rw [uT hL],List.prefix_refl _,rfl,h1.ok⟩
theorem iB.ok {d:ae} {l:bI} {Fr mD:List cz} {s s0:Nat} (h:iB d l Fr s mD s0):aO d:=by
 rcases h with ⟨_,h⟩|⟨_,h⟩ <;> exact h.ok
theorem iB.now {d:ae} {l:bI} {Fr mD:List cz} {s s0:Nat} (h:iB d l Fr s mD s0):Holds d.now d.files l.m Fr s:=by
 rcases h with ⟨_,h⟩|⟨_,h⟩ <;> exact h.now
/-! What calls leave of a firm log. -/
theorem eZ.other {d d':ae} {m:cZ} {Fr:List cz} {s:Nat} (h:eZ d m Fr s) {K:ByteArray→Prop} (hk:∀ n,Mine m.aa n→K n) (ho:dG K d d') (hok:aO d'):eZ d' m Fr s:=by
 have ha:agree (Mine m.aa) d'.now d.now:=fun n hn=>ho.names n (hk n hn)
 refine⟨hok,h.now.congr ha (fun n i hn hi=>ho.files n i (hk n hn) hi),fun N hN=>?_⟩
 rcases ho.states N hN with h1 | h1
 ·exact fun n hn=>(h.st N h1 n hn).trans (ha n hn).symm
 ·exact fun n hn=>(h1 n (hk n hn)).trans (ha n hn).symm
theorem eZ.tick {d:ae} {m:cZ} {Fr:List cz} {s:Nat} (h:eZ d m Fr s):eZ (aD d) m Fr s:=h.other (fun _ hn=>hn) (dG.tick _ d) (bV h.ok)
theorem Loose.tick {d:ae} {m:cZ} {Fr mD:List cz} {s s0:Nat} (h:Loose d m Fr s mD s0):Loose (aD d) m Fr s mD s0:=⟨bV h.ok,h.now,h.st⟩
theorem iB.fail {d:ae} {l:bI} {Fr mD:List cz} {s s0:Nat} (h:iB d l Fr s mD s0) (n:Int):iB (nA d n) l Fr s mD s0:=by
 have hok:=Hq h.ok n
 rcases h with ⟨h1,h⟩|⟨h1,h⟩
 ·exact Or.inl ⟨h1,hok,h.now,h.st⟩
 ·exact Or.inr ⟨h1,hok,h.now,h.st⟩
theorem eZ.sync {d:ae} {m:cZ} {Fr:List cz} {s:Nat} (h:eZ d m Fr s) (hn:d.now=d.now):eZ (nC d) m Fr s:=by
 refine⟨⟨h.ok.dZ,h.ok.file,⟨rfl,h.ok.now⟩,Nat.zero_le _,h.ok.Cm,h.ok.fail,fun n hn=>by simp [nC] at hn⟩,h.now,fun N hN=>?_⟩
 obtain⟨j,_,rfl⟩:=hN
 exact fun n hn=>by simp [nC]
theorem zK {d:ae} {m:cZ} {Fr:List cz} {s:Nat} (hok:aO d) (h:Holds d.now d.files m Fr s):eZ (nC d) m Fr s:=by
 refine⟨⟨hok.dZ,hok.file,⟨rfl,hok.now⟩,Nat.zero_le _,hok.Cm,hok.fail,fun n hn=>by simp [nC] at hn⟩,h,fun N hN=>?_⟩
 obtain⟨j,_,rfl⟩:=hN
 exact fun n hn=>by simp [nC]
theorem getD_inj {l:List Nat} (h:l.Pairwise (· < ·)) {i j:Nat} (hi:i < l.length) (hj:j < l.length) (hij:i < j):l.getD i 0 < l.getD j 0:=by
 rw [List.getD_eq_getElem?_getD,List.getD_eq_getElem?_getD,List.getElem?_eq_getElem hi,List.getElem?_eq_getElem hj]
 exact List.pairwise_iff_getElem.1 h i j hi hj hij
theorem mr.qo {N:gI} {fs:List FileD} {aa:List Nat} {ak:Nat} {C:List (List cz)} {L:List cz} {k kk i:Nat} (h:mr N fs aa ak C L k) (hp:aa.Pairwise (· < ·)) (hv:∀ s∈aa,1≤s∧s < 1000000) (hok:lH N kk) (hi:i < fs.length)
  (h0:bP N (ai (aa.getD C.length 0))=some i) (x:FileD) (L':List cz) (k':Nat) (hb:x.b=aV L') (hs:(aV (L'.take k')).length≤x.sure) (hk:k'≤L'.length) (hfr:∀ f∈L',ji f∧f.ak=ak):mr N (fs.set i x) aa ak C L' k':=by
 have hl:=h.len
 refine⟨hl,fun j hj=>(h.closed j hj).ED hok hi h0 (fun e=>?_) x,?_,hk,fun f hf=>?_⟩
 ·have h1:=getD_inj hp (i:=j) (j:=C.length) (by omega) (by omega) hj
  have:=mX (hv _ (iO (by omega))) (hv _ (iO (by omega))) e
  omega
 ·have:=dW.Kb hi h0 x
  rw [hb] at this
  exact this.le hs
 ·rcases List.mem_append.1 hf with hf | hf
  ·exact h.ok f (List.mem_append_left _ hf)
  ·exact hfr f hf
theorem Holds.qo {d:ae} {m:cZ} {C:List (List cz)} {L:List cz} {k i:Nat} {Fr:List cz} {s:Nat} (h:Holds d.now d.files m Fr s) (h1:mr d.now d.files m.aa m.ak C L k) (hok:aO d)
  (h0:bP d.now (ai (m.aa.getD C.length 0))=some i) (x:FileD) (L':List cz) (k' s':Nat) (hb:x.b=aV L') (hs:(aV (L'.take k')).length≤x.sure) (hk:k'≤L'.length) (hfr:∀ f∈L',ji f∧f.ak=m.ak) (hs':s'≤C.flatten.length+k'):Holds d.now (d.files.set i x) m (C.flatten++L') s':=by
 have hv:∀ s∈m.aa,1≤s∧s < 1000000:=fun s hs=>⟨(dY h.1 hs).1,(dY h.1 hs).2.2⟩
 exact⟨h.1,h.2.1.ED hok.now (hok.at h0) h0 (fun e=>lK _ e.symm) x,C,L',k',h1.qo (qh h.1) hv hok.now (hok.at h0) h0 x L' k' hb hs hk hfr,rfl,hs'⟩
theorem eZ.Ia {d:ae} {l:bI} {Fr:List cz} {s:Nat} (h:eZ d l.m Fr s):((aW d (bz l)).2=0∧eZ (aW d (bz l)).1 l.m Fr Fr.length)∨((aW d (bz l)).2≠0∧eZ (aW d (bz l)).1 l.m Fr s):=by
 obtain⟨hm,hh,C,L,k,h1,rfl,h3⟩:=h.now
 rcases iX d (bz l) with ⟨e,h2,he⟩|⟨_,i,h4,h5⟩
 ·rw [h2];exact Or.inr ⟨by simp only;omega,h.tick⟩
 ·left
  have hok:=gG h.ok (bz l)
  rw [h5] at hok ⊢
  rw [jJ h1.len] at h4
  obtain⟨i',e1,e2,e3⟩:=h1.last
  obtain rfl:i=i':=by rw [h4] at e1;exact Option.some.inj e1
  refine⟨rfl,hok,?_,fun N hN=>h.st N hN⟩
  exact h.now.qo h1 h.ok h4 ⟨(d.files.getD i default).b,(d.files.getD i default).b.length⟩ L L.length _ e2 (by simp only;rw [e2,List.take_length];omega) (Nat.le_refl _) (fun f hf=>h1.ok f (List.mem_append_right _ hf)) (by rw [List.length_append];omega)
theorem eZ.write {d:ae} {l:bI} {Fr:List cz} {s:Nat} (h:eZ d l.m Fr s) {f:cz} (hf:ji f∧f.ak=l.m.ak):((aI d (bz l) (aj f)).2=0∧eZ (aI d (bz l) (aj f)).1 l.m (Fr++[f]) s)∨((aI d (bz l) (aj f)).2≠0∧eZ (aI d (bz l) (aj f)).1 l.m Fr s):=by
 obtain⟨hm,hh,C,L,k,h1,rfl,h3⟩:=h.now
 obtain⟨i',e1,e2,e3⟩:=h1.last
 have aaN:=h1.few
 have hok:=gV h.ok (bz l) (aj f)
 rcases gp d (bz l) (aj f) with ⟨e,h2,he⟩|⟨_,_,_,⟨i,h4,h5⟩|⟨h4,_⟩⟩
 ·rw [h2];exact Or.inr ⟨by simp only;omega,h.tick⟩
 ·left
  rw [h5] at hok ⊢
  rw [jJ h1.len] at h4
  obtain rfl:i=i':=by rw [h4] at e1;exact Option.some.inj e1
  refine⟨rfl,hok,?_,fun N hN=>h.st N hN⟩
  rw [List.append_assoc]
  refine h.now.qo h1 h.ok h4 ⟨(d.files.getD i default).b++aj f,(d.files.getD i default).sure⟩ (L++[f]) k s ?_ ?_ (by rw [List.length_append];omega) (fun g hg=>?_) h3
  ·simp only;rw [e2,pg];simp [aV]
  ·rw [List.take_append_of_le_length aaN];exact e3
  ·rcases List.mem_append.1 hg with hg | hg
   ·exact h1.ok g (List.mem_append_right _ hg)
   ·simp at hg;subst hg;exact hf
 ·rw [jJ h1.len,e1] at h4;cases h4
/-! A manifest is written. -/
theorem jK {K:ByteArray→Prop} {d:ae} (h:aO d) {n:ByteArray} (hn:¬ K n):dG K d (bH n d).1:=by
 unfold bH;split
 ·exact dG.remove h hn
 ·exact dG.refl K d
theorem jo {d:ae} (h:aO d) (n:ByteArray):aO (bH n d).1:=by
 unfold bH;split
 ·exact nZ h n
 ·exact h
theorem jh {d:ae} (h:aO d) {n:ByteArray} (h0:(bH n d).2=0):bP (bH n d).1.now n=none:=by
 unfold bH at h0 ⊢
 split
 ·rename_i hs
  rw [if_pos hs] at h0
  rcases mM d n with ⟨e,h1,he⟩|⟨_,_,h1⟩
  ·rw [h1] at h0;simp only at h0;omega
  ·rw [h1];show bP (ed d.now n) n=none
   rw [nX h.now.row,if_pos rfl]
 ·rename_i hs
  simpa using hs
theorem jL {d:ae} (h:aO d) {n:ByteArray} {b:List UInt8} (hn:bP d.now n=none) (h0:(aI d n b).2=0):dW (aI d n b).1.now (aI d n b).1.files n b 0:=by
 rcases gp d n b with ⟨e,h1,he⟩|⟨_,_,_,⟨i,h4,_⟩|⟨_,h5⟩⟩
 ·rw [h1] at h0;simp only at h0;omega
 ·rw [hn] at h4;cases h4
 ·rw [h5]
  have hi:d.files.length < (d.files++[(⟨[],0⟩:FileD)]).length:=by simp
  refine⟨d.files.length,?_,?_,Nat.zero_le _⟩
  ·show bP (iN d.now n d.files.length) n=_
   rw [qd h.now.row,if_pos rfl]
  ·show (((dU (aD d)).files.set d.files.length _).getD d.files.length default).b=b
   rw [eu (by exact hi),if_pos rfl]
   simp [bu,dU,aD]
theorem wH {d:ae} {n:ByteArray} {b:List UInt8} {s:Nat} (hok:aO d) (h:dW d.now d.files n b s) (h0:(aW d n).2=0):dW (aW d n).1.now (aW d n).1.files n b b.length:=by
 obtain⟨i,h1,h2,h3⟩:=h
 rcases iX d n with ⟨e,h4,he⟩|⟨_,j,h4,h5⟩
 ·rw [h4] at h0;simp only at h0;omega
 ·obtain rfl:i=j:=by rw [h1] at h4;exact Option.some.inj h4
  rw [h5]
  have:=dW.Kb (N:=d.now) (hok.at h4) h4 ⟨(d.files.getD i default).b,(d.files.getD i default).b.length⟩
  rw [h2] at this
  simp only at this
  show dW d.now (d.files.set i _) n b b.length
  rw [h2];exact this
theorem sS {d:ae} {m m':cZ} {Fr zt:List cz} {s s':Nat} (h:eZ d m Fr s) (h':jf d.now d.files m'.aa m'.ak zt s') :
  ((aG m' d).2.1=false∧(aG m' d).2.2≠0∧eZ (aG m' d).1 m Fr s)∨((aG m' d).2.1=true∧(aG m' d).2.2=0∧fJ m'=true∧eZ (aG m' d).1 m' zt s')∨((aG m' d).2.1=true∧(aG m' d).2.2≠0∧Loose (aG m' d).1 m' zt s' Fr s):=by
 unfold aG
 by_cases hm:fJ m'=false
 ·rw [if_pos hm];exact Or.inl ⟨rfl,by simp,h⟩
 have hm':fJ m'=true:=by simpa using hm
 rw [if_neg hm]
 have nf:¬ (fun n=>n≠az) az:=fun h=>h rfl
 have hk:∀ (aa:List Nat) n,Mine aa n→n≠az:=fun aa n hn e=>rE (e ▸ hn)
 have o1:=jK (K:=fun n=>n≠az) h.ok nf
 have k1:=jo h.ok az
 have n1:=jh (n:=az) h.ok
 have hfresh:eY m' d=bM (bM (bM (bH az d) (fun d=>aI d az (aj (dP m')))) (fun d=>aW d az)) (fun d=>bZ d az bG):=rfl
 generalize bH az d=r1 at *
 by_cases e1:r1.2=0
 case neg=>
  rw [aZ e1,aZ e1,aZ e1] at hfresh
  rw [hfresh,if_pos e1]
  exact Or.inl ⟨rfl,e1,h.other (hk _) o1 k1⟩
 rw [aT e1] at hfresh
 have o2:=o1.trans (dG.append (K:=fun n=>n≠az) k1 nf (aj (dP m')))
 have k2:=gV k1 az (aj (dP m'))
 have n2:=jL k1 (b:=aj (dP m')) (n1 e1)
 generalize aI r1.1 az (aj (dP m'))=r2 at *
 by_cases e2:r2.2=0
 case neg=>
  rw [aZ e2,aZ e2] at hfresh
  rw [hfresh,if_pos e2]
  exact Or.inl ⟨rfl,e2,h.other (hk _) o2 k2⟩
 rw [aT e2] at hfresh
 have o3:=o2.trans (dG.sync (K:=fun n=>n≠az) k2 nf)
 have k3:=gG k2 az
 have n3:=wH k2 (n2 e2)
 generalize aW r2.1 az=r3 at *
 by_cases e3:r3.2=0
 case neg=>
  rw [aZ e3] at hfresh
  rw [hfresh,if_pos e3]
  exact Or.inl ⟨rfl,e3,h.other (hk _) o3 k3⟩
 rw [aT e3] at hfresh
 have f3:=h.other (hk _) o3 k3
 have g3:jf r3.1.now r3.1.files m'.aa m'.ak zt s':=h'.congr (fun n hn=>o3.names n (hk _ n hn)) (fun n i hn hi=>o3.files n i (hk _ n hn) hi)
 obtain⟨x,x1,x2,x3⟩:=n3 e3
 rcases jw r3.1 az bG with ⟨e,h4,he⟩|⟨_,_,_,⟨h4,_⟩|⟨_,h4⟩⟩
 ·rw [h4] at hfresh
  rw [hfresh,if_pos (by simp only;omega)]
  exact Or.inl ⟨rfl,by simp only;omega,f3.tick⟩
 ·exact absurd h4.symm je
 ·have k4:=nY k3 az bG
  rw [h4] at hfresh k4
  rw [hfresh,if_neg (by simp)]
  simp only at k4 ⊢
  have hat:∀ n,n≠az→bP (bu (aD r3.1) (.ren az bG)).now n=if n=bG then some x else bP r3.1.now n:=fun n hn=>by
   show bP (nmDo r3.1.now (.ren az bG)) n=_
   have e:nmDo r3.1.now (.ren az bG)=ed (iN r3.1.now bG x) az:=by simp only [nmDo,x1]
   rw [e,nX (mq k3.now.row _ _),if_neg hn,qd k3.now.row]
  have Ur:Holds (bu (aD r3.1) (.ren az bG)).now (bu (aD r3.1) (.ren az bG)).files m' zt s':=by
   refine⟨hm',⟨x,by rw [hat _ je,if_pos rfl],x2,x3⟩,?_⟩
   obtain⟨C,L,k,c1,c2,c3⟩:=g3
   have hsn:∀ i,bP (bu (aD r3.1) (.ren az bG)).now (ai i)=bP r3.1.now (ai i):=fun i=>by
    rw [hat _ (pJ _),if_neg (lK _)]
   exact⟨C,L,k,⟨c1.len,fun i hi=>(c1.closed i hi).congr (hsn _) (fun _ _=>rfl),c1.last.congr (hsn _) (fun _ _=>rfl),c1.few,c1.ok⟩,c2,c3⟩
  right
  rcases gF (bu (aD r3.1) (.ren az bG)) with h6 | ⟨_,h6⟩
  ·right
   rw [h6]
   refine⟨trivial,by simp,bV k4,Ur,fun N hN=>?_⟩
   rcases pE (bV k3) hN with h7 | h7
   ·exact Or.inr ⟨m,f3.now.congr (f3.st N h7) (fun _ _ _ _=>rfl)⟩
   ·subst h7;exact Or.inl (fun _ _=>rfl)
  ·left
   rw [h6]
   exact⟨trivial,by simp,hm',zK (bV k4) Ur⟩
/-! The log's calls. -/
theorem vB {d:ae} {l:bI} {Fr mD:List cz} {s s0:Nat} (h:iB d l Fr s mD s0) :
  ((aY (d,l)).2=0∧(aY (d,l)).1.2=⟨l.size,l.m,false⟩∧eZ (aY (d,l)).1.1 l.m Fr s)∨((aY (d,l)).2≠0∧(aY (d,l)).1.2=l∧iB (aY (d,l)).1.1 l Fr s mD s0):=by
 unfold aY
 rcases h with ⟨h1,h⟩|⟨h1,h⟩
 ·left
  simp only [h1]
  refine⟨by simp,?_,h⟩
  cases l;simp only at h1;subst h1;rfl
 ·simp only [h1]
  rcases gF d with h6 | ⟨_,h6⟩
  ·right
   rw [h6]
   refine⟨by simp,?_,Or.inr ⟨h1,h.tick⟩⟩
   cases l;simp only at h1;subst h1;simp
  ·left
   rw [h6]
   exact⟨by simp,by simp,zK (bV h.ok) h.now⟩
theorem QE {d:ae} {l:bI} {Fr mD:List cz} {s s0:Nat} (h:iB d l Fr s mD s0) :
  (fM (d,l)).1.2.size=l.size∧(fM (d,l)).1.2.m=l.m∧(((fM (d,l)).2=0∧(fM (d,l)).1.2.loose=false∧eZ (fM (d,l)).1.1 l.m Fr Fr.length)∨((fM (d,l)).2≠0∧iB (fM (d,l)).1.1 (fM (d,l)).1.2 Fr s mD s0)):=by
 unfold fM
 have h1:=vB h
 generalize aY (d,l)=r at *
 rcases h1 with ⟨h2,h3,h4⟩|⟨h2,h3,h4⟩
 ·rw [aT h2]
  unfold gW
  have h5:=eZ.Ia (l:=r.1.2) (s:=s) (Fr:=Fr) (d:=r.1.1) (by rw [h3];exact h4)
  simp only
  rw [h3] at h5 ⊢
  refine⟨rfl,rfl,?_⟩
  rcases h5 with ⟨h6,h7⟩|⟨h6,h7⟩
  ·exact Or.inl ⟨h6,rfl,h7⟩
  ·exact Or.inr ⟨h6,Or.inl ⟨rfl,h7⟩⟩
 ·rw [aZ h2,h3]
  exact⟨rfl,rfl,Or.inr ⟨h2,h4⟩⟩
theorem eZ.le {d:ae} {m:cZ} {Fr:List cz} {s s':Nat} (h:eZ d m Fr s) (hs:s'≤s):eZ d m Fr s':=⟨h.ok,h.now.le hs,h.st⟩
theorem eZ.zJ {d:ae} {m:cZ} {Fr:List cz} {s:Nat} (h:eZ d m Fr s):s≤Fr.length:=h.now.2.2.zJ
theorem Loose.le {d:ae} {m:cZ} {Fr mD:List cz} {s s' s0 s0':Nat} (h:Loose d m Fr s mD s0) (hs:s'≤s) (hs0:s0'≤s0):Loose d m Fr s' mD s0':=
 ⟨h.ok,h.now.le hs,fun N hN=>by
  rcases h.st N hN with h1 | ⟨m0,h1⟩
  ·exact Or.inl h1
  ·exact Or.inr ⟨m0,h1.le hs0⟩⟩
theorem eZ.valid {d:ae} {m:cZ} {Fr:List cz} {s:Nat} (h:eZ d m Fr s):∀ x∈m.aa,1≤x∧x < 1000000:=fun x hx=>⟨(dY h.now.1 hx).1,(dY h.now.1 hx).2.2⟩
theorem wI {l:List Nat} {x i:Nat} (h:i < l.length):(l++[x]).getD i 0=l.getD i 0:=by
 rw [List.getD_eq_getElem?_getD,List.getD_eq_getElem?_getD,List.getElem?_append_left h]
theorem xN {l:List Nat} {x n:Nat} (h:l.length=n):(l++[x]).getD n 0=x:=by
 rw [List.getD_eq_getElem?_getD,← h];simp
theorem mr.snoc {N N':gI} {fs fs':List FileD} {aa:List Nat} {ak:Nat} {C:List (List cz)} {L F:List cz} {k x:Nat} (h:mr N fs aa ak C L k) (hk:L.length≤k) (hN:∀ s∈aa,bP N' (ai s)=bP N (ai s)) (hf:∀ s∈aa,∀ i,bP N (ai s)=some i→fs'.getD i default=fs.getD i default)
  (hx:dW N' fs' (ai x) (aV F) 0) (hF:∀ f∈F,ji f∧f.ak=ak):mr N' fs' (aa++[x]) ak (C++[L]) F 0:=by
 have hl:=h.len
 refine⟨by simp [hl],fun i hi=>?_,?_,Nat.zero_le _,fun f hf=>?_⟩
 ·rw [List.length_append,List.length_singleton] at hi
  rw [wI (by omega)]
  have hm:aa.getD i 0∈aa:=iO (by omega)
  by_cases e:i < C.length
  ·have e2:(C++[L]).getD i []=C.getD i []:=by rw [List.getD_eq_getElem?_getD,List.getD_eq_getElem?_getD,List.getElem?_append_left e]
   rw [e2]
   exact (h.closed i e).congr (hN _ hm) (hf _ hm)
  ·obtain rfl:i=C.length:=by omega
   have e2:(C++[L]).getD C.length []=L:=by rw [List.getD_eq_getElem?_getD];simp
   rw [e2]
   have:=h.last
   rw [List.take_of_length_le hk] at this
   exact this.congr (hN _ hm) (hf _ hm)
 ·rw [xN (by simp [hl])];exact hx
 ·rw [List.flatten_append] at hf
  simp only [List.flatten_cons,List.flatten_nil,List.append_nil] at hf
  rcases List.mem_append.1 hf with hf | hf
  ·exact h.ok f hf
  ·exact hF f hf
theorem AY {d:ae} {l:bI} {Fr:List cz} {s:Nat} (h:eZ d l.m Fr s) (hl:l.loose=false) :
  (gY (d,l)).1.2.size=l.size∧(gY (d,l)).1.2.m.ak=l.m.ak∧(((gY (d,l)).2=0∧(gY (d,l)).1.2.loose=false∧eZ (gY (d,l)).1.1 (gY (d,l)).1.2.m Fr Fr.length)∨((gY (d,l)).2≠0∧iB (gY (d,l)).1.1 (gY (d,l)).1.2 Fr s Fr s)):=by
 have hsl:=h.zJ
 unfold gY
 simp only
 by_cases h64:64≤l.m.aa.length
 ·rw [if_pos h64];exact⟨rfl,rfl,Or.inr ⟨by simp,Or.inl ⟨hl,h⟩⟩⟩
 rw [if_neg h64]
 have e1:gW (fun d=>aW d (bz l)) (d,l)=(((aW d (bz l)).1,l),(aW d (bz l)).2):=rfl
 rw [e1]
 rcases h.Ia (l:=l) with ⟨s1,f1⟩|⟨s1,f1⟩
 case inr=>
  have s1':((((aW d (bz l)).1,l),(aW d (bz l)).2):DL×Int).2≠0:=s1
  rw [aZ s1',aZ s1',aZ s1']
  exact⟨rfl,rfl,Or.inr ⟨s1,Or.inl ⟨hl,f1⟩⟩⟩
 generalize aW d (bz l)=r1 at *
 have s1':(((r1.1,l),r1.2):DL×Int).2=0:=s1
 rw [aT s1']
 have hv:=f1.valid
 have hnot:l.m.next ∉ l.m.aa:=fun hm=>by have:=dY f1.now.1 hm;omega
 have QF:∀ n,Mine l.m.aa n→n≠ai l.m.next:=fun n hn e=>lL hv hnot (e ▸ hn)
 have nk:¬ (fun n=>n≠ai l.m.next) (ai l.m.next):=fun h=>h rfl
 have e2:gW (dM l.m.next) (r1.1,l)=(((dM l.m.next r1.1).1,l),(dM l.m.next r1.1).2):=rfl
 rw [e2]
 have hb:dM l.m.next r1.1=bM (bH (ai l.m.next) r1.1) (fun d=>aI d (ai l.m.next) []):=rfl
 have o1:=jK (K:=fun n=>n≠ai l.m.next) f1.ok nk
 have k1:=jo f1.ok (ai l.m.next)
 have n1:=jh (n:=ai l.m.next) f1.ok
 generalize bH (ai l.m.next) r1.1=c1 at *
 by_cases q1:c1.2=0
 case neg=>
  rw [aZ q1] at hb
  have q1':(((c1.1,l),c1.2):DL×Int).2≠0:=q1
  rw [hb,aZ q1',aZ q1']
  exact⟨rfl,rfl,Or.inr ⟨q1,Or.inl ⟨hl,(f1.other QF o1 k1).le hsl⟩⟩⟩
 rw [aT q1] at hb
 rw [hb]
 have o2:=o1.trans (dG.append (K:=fun n=>n≠ai l.m.next) k1 nk [])
 have k2:=gV k1 (ai l.m.next) []
 have n2:=jL k1 (b:=[]) (n1 q1)
 generalize aI c1.1 (ai l.m.next) []=c2 at *
 by_cases q2:c2.2=0
 case neg=>
  have q2':(((c2.1,l),c2.2):DL×Int).2≠0:=q2
  rw [aZ q2',aZ q2']
  exact⟨rfl,rfl,Or.inr ⟨q2,Or.inl ⟨hl,(f1.other QF o2 k2).le hsl⟩⟩⟩
 have q2':(((c2.1,l),c2.2):DL×Int).2=0:=q2
 rw [aT q2']
 have e3:gW (fun d=>aW d (ai l.m.next)) (c2.1,l)=(((aW c2.1 (ai l.m.next)).1,l),(aW c2.1 (ai l.m.next)).2):=rfl
 rw [e3]
 have o3:=o2.trans (dG.sync (K:=fun n=>n≠ai l.m.next) k2 nk)
 have k3:=gG k2 (ai l.m.next)
 have n3:=wH k2 (n2 q2)
 generalize aW c2.1 (ai l.m.next)=c3 at *
 have f3:=f1.other QF o3 k3
 by_cases q3:c3.2=0
 case neg=>
  have q3':(((c3.1,l),c3.2):DL×Int).2≠0:=q3
  rw [aZ q3']
  exact⟨rfl,rfl,Or.inr ⟨q3,Or.inl ⟨hl,f3.le hsl⟩⟩⟩
 have q3':(((c3.1,l),c3.2):DL×Int).2=0:=q3
 rw [aT q3']
 have hS:jf c3.1.now c3.1.files (gM l).aa (gM l).ak Fr Fr.length:=by
  obtain⟨_,_,C,L,k,g1,rfl,g3⟩:=f3.now
  refine⟨C++[L],[],0,g1.snoc ?_ (fun _ _=>rfl) (fun _ _ _ _=>rfl) ((n3 q3).le (Nat.zero_le _)) (fun f hf=>by simp at hf),by simp,by simp⟩
  rw [List.length_append] at g3;omega
 have hc:=sS f3 hS
 unfold dD
 simp only
 generalize aG (gM l) c3.1=r at *
 rcases hc with ⟨b1,b2,b3⟩|⟨b1,b2,b3,b4⟩|⟨b1,b2,b3⟩
 ·rw [if_neg (by rw [b1];simp)]
  exact⟨rfl,rfl,Or.inr ⟨b2,Or.inl ⟨hl,b3.le hsl⟩⟩⟩
 ·rw [if_pos b1]
  exact⟨rfl,rfl,Or.inl ⟨b2,by simp [b2],b4⟩⟩
 ·rw [if_pos b1]
  exact⟨rfl,rfl,Or.inr ⟨b2,Or.inr ⟨by simp [b2],b3.le hsl hsl⟩⟩⟩
theorem Xz {kind:Int} {ak:Nat} {body:List UInt8} (h:gu kind ak body.length=0):ji ⟨kind.toNat,ak,body⟩:=by
 unfold gu at h
 split at h
 ·cases h
 ·split at h
  ·cases h
  ·exact⟨by simp only;omega,by simp only;omega,by simp only;omega⟩
theorem vC {d:ae} {l:bI} {Fr mD:List cz} {s s0:Nat} (h:iB d l Fr s mD s0) (kind:Int) (body:List UInt8) :
  (bY kind body (d,l)).1.2.size=l.size∧(bY kind body (d,l)).1.2.m.ak=l.m.ak ∧
  (((bY kind body (d,l)).2=0∧(bY kind body (d,l)).1.2.loose=false∧eZ (bY kind body (d,l)).1.1 (bY kind body (d,l)).1.2.m (Fr++[⟨kind.toNat,l.m.ak,body⟩]) s) ∨
    ((bY kind body (d,l)).2≠0∧(iB (bY kind body (d,l)).1.1 (bY kind body (d,l)).1.2 Fr s mD s0∨iB (bY kind body (d,l)).1.1 (bY kind body (d,l)).1.2 Fr s Fr s))):=by
 unfold bY
 simp only
 by_cases hp:gu kind l.m.ak body.length=0
 case neg=>rw [if_pos hp];exact⟨rfl,rfl,Or.inr ⟨hp,Or.inl h⟩⟩
 rw [if_neg (by simp [hp])]
 have hfo:=Xz hp
 have h1:=vB h
 generalize aY (d,l)=r at *
 rcases h1 with ⟨h2,h3,h4⟩|⟨h2,h3,h4⟩
 case inr=>
  rw [aZ h2,aZ h2,h3]
  exact⟨rfl,rfl,Or.inr ⟨h2,Or.inl h4⟩⟩
 rw [aT h2]
 obtain⟨⟨d1,l1⟩,e1⟩:=r
 simp only at h2 h3 h4 ⊢
 subst h3
 generalize Ib:(if lI ⟨l.size,l.m,false⟩ (bytesD d1 (bz ⟨l.size,l.m,false⟩)) (aj ⟨kind.toNat,l.m.ak,body⟩).length=true then ((d1,(⟨l.size,l.m,false⟩:bI)),(0:Int)) else gY (d1,⟨l.size,l.m,false⟩))=r2
 have h5:r2.1.2.size=l.size∧r2.1.2.m.ak=l.m.ak∧((r2.2=0∧r2.1.2.loose=false∧eZ r2.1.1 r2.1.2.m Fr s)∨(r2.2≠0∧iB r2.1.1 r2.1.2 Fr s Fr s)):=by
  rw [← Ib]
  split
  ·exact⟨rfl,rfl,Or.inl ⟨rfl,rfl,h4⟩⟩
  ·obtain⟨t1,t2,t3⟩:=AY (l:=⟨l.size,l.m,false⟩) h4 rfl
   refine⟨t1,t2,?_⟩
   rcases t3 with ⟨u1,u2,u3⟩|⟨u1,u2⟩
   ·exact Or.inl ⟨u1,u2,u3.le h4.zJ⟩
   ·exact Or.inr ⟨u1,u2⟩
 clear Ib
 obtain⟨h6,h7,h8⟩:=h5
 rcases h8 with ⟨h9,h10,h11⟩|⟨h9,h10⟩
 case inr=>
  rw [aZ h9]
  exact⟨h6,h7,Or.inr ⟨h9,Or.inr h10⟩⟩
 rw [aT h9]
 unfold gW
 simp only
 refine⟨h6,h7,?_⟩
 rcases h11.write (l:=r2.1.2) (f:=⟨kind.toNat,l.m.ak,body⟩) ⟨hfo,h7.symm⟩ with ⟨k1,k2⟩|⟨k1,k2⟩
 ·exact Or.inl ⟨k1,h10,k2⟩
 ·exact Or.inr ⟨k1,Or.inl (Or.inl ⟨h10,k2⟩)⟩
/-! Rows are laid beside a log. -/
structure Beside (d0:ae) (m:cZ) (s:ae×List Nat×Nat):Prop where
 other:dG (Mine m.aa) d0 s.1
 ok:aO s.1
 aa:s.2.1=(List.range s.2.1.length).map (fun i=>m.next+i)
theorem Beside.mem {d0:ae} {m:cZ} {s:ae×List Nat×Nat} (h:Beside d0 m s) {x:Nat} (hx:x∈s.2.1):m.next≤x∧x < m.next+s.2.1.length:=by
 rw [h.aa] at hx
 simp only [List.mem_map,List.mem_range] at hx
 obtain⟨i,hi,rfl⟩:=hx;omega
structure Laid (d0:ae) (m:cZ) (ak:Nat) (P:List cz) (full:Bool) (s:ae×List Nat×Nat):Prop where
 beside:Beside d0 m s
 valid:∀ x∈s.2.1,x < 1000000
 held:(s.2.1=[]∧P=[])∨∃ C L k,mr s.1.now s.1.files s.2.1 ak C L k∧P=C.flatten++L∧s.2.2=(aV L).length∧(full=true→L.length≤k)
theorem AZ (nx n:Nat):(List.range (n+1)).map (fun i=>nx+i)=(List.range n).map (fun i=>nx+i)++[nx+n]:=by rw [List.range_succ,List.map_append];rfl
theorem xO {d0:ae} {m:cZ} {ak:Nat} {P F:List cz} {s:ae×List Nat×Nat} (hv:∀ x∈m.aa,1≤x∧x < 1000000) (hlt:∀ x∈m.aa,x < m.next) (hn1:1≤m.next) (h:Laid d0 m ak P true s) (hF:∀ f∈F,ji f∧f.ak=ak) :
  ((dL m.next (aV F) s).2=0∧Laid d0 m ak (P++F) false (dL m.next (aV F) s).1∧(dL m.next (aV F) s).1.2.1≠[])∨((dL m.next (aV F) s).2≠0∧Beside d0 m (dL m.next (aV F) s).1):=by
 have hb:=h.beside
 unfold dL
 by_cases h64:64≤s.2.1.length
 ·rw [if_pos h64];exact Or.inr ⟨by simp,hb⟩
 rw [if_neg h64]
 have hnot:m.next+s.2.1.length ∉ m.aa:=fun hm=>by have:=hlt _ hm;omega
 have Zm:¬ Mine m.aa (ai (m.next+s.2.1.length)):=lL hv hnot
 have o1:=jK (K:=Mine m.aa) hb.ok Zm
 have p1:=jK (K:=fun n=>n≠ai (m.next+s.2.1.length)) hb.ok (fun h=>h rfl)
 have k1:=jo hb.ok (ai (m.next+s.2.1.length))
 have n1:=jh (n:=ai (m.next+s.2.1.length)) hb.ok
 generalize bH (ai (m.next+s.2.1.length)) s.1=c1 at *
 by_cases q1:c1.2=0
 case neg=>rw [if_pos q1];exact Or.inr ⟨q1,hb.other.trans o1,k1,hb.aa⟩
 rw [if_neg (by simp [q1])]
 have o2:=o1.trans (dG.append (K:=Mine m.aa) k1 Zm (aV F))
 have p2:=p1.trans (dG.append (K:=fun n=>n≠ai (m.next+s.2.1.length)) k1 (fun h=>h rfl) (aV F))
 have k2:=gV k1 (ai (m.next+s.2.1.length)) (aV F)
 have n2:=jL k1 (b:=aV F) (n1 q1)
 have hnamed:(aI c1.1 (ai (m.next+s.2.1.length)) (aV F)).2=0→m.next+s.2.1.length < 1000000:=fun h0=>by
  rcases gp c1.1 (ai (m.next+s.2.1.length)) (aV F) with ⟨e,h1,he⟩|⟨_,hnm,_⟩
  ·rw [h1] at h0;simp only at h0;omega
  ·refine Classical.byContradiction fun hc=>?_
   rw [sP (by omega)] at hnm
   exact absurd hnm (by decide)
 generalize aI c1.1 (ai (m.next+s.2.1.length)) (aV F)=c2 at *
 have hsg:s.2.1++[m.next+s.2.1.length]=(List.range (s.2.1++[m.next+s.2.1.length]).length).map (fun i=>m.next+i):=by
  rw [List.length_append,List.length_singleton,AZ,← hb.aa]
 have hb2:Beside d0 m (c2.1,s.2.1++[m.next+s.2.1.length],(aV F).length):=⟨hb.other.trans o2,k2,hsg⟩
 by_cases q2:c2.2=0
 case neg=>exact Or.inr ⟨q2,hb2⟩
 left
 refine⟨q2,⟨hb2,fun x hx=>?_,Or.inr ?_⟩,by simp⟩
 ·rcases List.mem_append.1 hx with hx | hx
  ·exact h.valid x hx
  ·simp at hx;subst hx;exact hnamed q2
 ·rcases h.held with ⟨e1,rfl⟩|⟨C,L,k,g1,rfl,g3,g4⟩
  ·refine⟨[],F,0,⟨by simp [e1],fun i hi=>by simp at hi,?_,Nat.zero_le _,by simpa using hF⟩,by simp,rfl,fun h=>by cases h⟩
   have:=n2 q2
   simp only [e1,List.nil_append,List.length_nil,Nat.add_zero] at this ⊢
   exact this
  ·have hne:∀ x∈s.2.1,ai x≠ai (m.next+s.2.1.length):=fun x hx e=>by
    have:=hb.mem hx
    have:=mX ⟨by omega,h.valid x hx⟩ ⟨by omega,hnamed q2⟩ e
    omega
   exact⟨C++[L],F,0,g1.snoc (g4 rfl) (fun x hx=>p2.names _ (hne x hx)) (fun x hx i hi=>p2.files _ i (hne x hx) hi) (n2 q2) hF,by simp,rfl,fun h=>by cases h⟩
theorem mE {aa:List Nat} {n:Nat} (h:aa.length=n+1):newest aa=ai (aa.getD n 0):=by
 unfold newest
 congr 1
 rw [List.getLastD_eq_getLast?,List.getLast?_eq_getElem?,List.getD_eq_getElem?_getD,h,Nat.add_sub_cancel]
theorem vD (nx n:Nat):((List.range n).map (fun i=>nx+i)).Pairwise (· < ·):=List.pairwise_map.2 (List.pairwise_lt_range.imp (fun h=>by omega))
theorem xP {d0:ae} {m:cZ} {ak:Nat} {P:List cz} {b:Bool} {s:ae×List Nat×Nat} (hv:∀ x∈m.aa,1≤x∧x < 1000000) (hlt:∀ x∈m.aa,x < m.next) (hn1:1≤m.next) (h:Laid d0 m ak P b s) (hne:s.2.1≠[]) :
  ((aW s.1 (newest s.2.1)).2=0∧Laid d0 m ak P true ((aW s.1 (newest s.2.1)).1,s.2))∨((aW s.1 (newest s.2.1)).2≠0∧Beside d0 m ((aW s.1 (newest s.2.1)).1,s.2)):=by
 have hb:=h.beside
 rcases h.held with ⟨e1,_⟩|⟨C,L,k,g1,rfl,g3,g4⟩
 ·exact absurd e1 hne
 have hl:=g1.len
 have hmem:s.2.1.getD C.length 0∈s.2.1:=iO (by omega)
 have Zm:¬ Mine m.aa (newest s.2.1):=by
  rw [mE hl];exact lL hv (fun hm=>by have:=hlt _ hm;have:=hb.mem hmem;omega)
 have hb2:Beside d0 m ((aW s.1 (newest s.2.1)).1,s.2):=⟨hb.other.trans (dG.sync hb.ok Zm),gG hb.ok _,hb.aa⟩
 rcases iX s.1 (newest s.2.1) with ⟨e,h2,he⟩|⟨_,i,h4,h5⟩
 ·rw [h2] at hb2 ⊢;exact Or.inr ⟨by simp only;omega,hb2⟩
 ·rw [h5] at hb2 ⊢
  rw [mE hl] at h4
  obtain⟨i',e1,e2,e3⟩:=g1.last
  obtain rfl:i=i':=by rw [h4] at e1;exact Option.some.inj e1
  left
  refine⟨rfl,hb2,h.valid,Or.inr ⟨C,L,L.length,?_,rfl,g3,fun _=>Nat.le_refl _⟩⟩
  exact g1.qo (by rw [hb.aa];exact vD _ _) (fun x hx=>⟨by have:=hb.mem hx;omega,h.valid x hx⟩) hb.ok.now (hb.ok.at h4) h4 ⟨(s.1.files.getD i default).b,(s.1.files.getD i default).b.length⟩ L L.length e2 (by simp only;rw [e2,List.take_length];omega) (Nat.le_refl _) (fun f hf=>g1.ok f (List.mem_append_right _ hf))
theorem Ic {d0:ae} {l:bI} {ak:Nat} {P:List cz} {f:cz} {s:ae×List Nat×Nat} (hv:∀ x∈l.m.aa,1≤x∧x < 1000000) (hlt:∀ x∈l.m.aa,x < l.m.next) (hn1:1≤l.m.next) (h:Laid d0 l.m ak P false s) (hF:ji f∧f.ak=ak) :
  ((jk l (aj f) s).2=0∧Laid d0 l.m ak (P++[f]) false (jk l (aj f) s).1∧(jk l (aj f) s).1.2.1≠[])∨((jk l (aj f) s).2≠0∧Beside d0 l.m (jk l (aj f) s).1):=by
 have hb:=h.beside
 have hj:aj f=aV [f]:=by simp [aV]
 unfold jk
 by_cases he:s.2.1=[]
 ·rw [if_pos he,hj]
  refine xO hv hlt hn1 ⟨hb,h.valid,?_⟩ (by simpa using hF)
  rcases h.held with h1 | ⟨C,L,k,g1,_⟩
  ·exact Or.inl h1
  ·have:=g1.len;rw [he] at this;simp at this
 rw [if_neg he]
 obtain⟨C,L,k,g1,rfl,g3,g4⟩:∃ C L k,mr s.1.now s.1.files s.2.1 ak C L k∧P=C.flatten++L∧s.2.2=(aV L).length∧(false=true→L.length≤k):=by
  rcases h.held with ⟨h1,_⟩ | h1
  ·exact absurd h1 he
  ·exact h1
 have hl:=g1.len
 have hmem:s.2.1.getD C.length 0∈s.2.1:=iO (by omega)
 have Zm:¬ Mine l.m.aa (newest s.2.1):=by
  rw [mE hl];exact lL hv (fun hm=>by have:=hlt _ hm;have:=hb.mem hmem;omega)
 by_cases hfit:lI l s.2.2 (aj f).length=true
 ·rw [if_pos hfit]
  have hb2:Beside d0 l.m ((aI s.1 (newest s.2.1) (aj f)).1,s.2.1,s.2.2+(aj f).length):=⟨hb.other.trans (dG.append hb.ok Zm _),gV hb.ok _ _,hb.aa⟩
  obtain⟨i',e1,e2,e3⟩:=g1.last
  rcases gp s.1 (newest s.2.1) (aj f) with ⟨e,h2,hee⟩|⟨_,_,_,⟨i,h4,h5⟩|⟨h4,_⟩⟩
  ·rw [h2] at hb2 ⊢;exact Or.inr ⟨by simp only;omega,hb2⟩
  ·rw [h5] at hb2 ⊢
   rw [mE hl] at h4
   obtain rfl:i=i':=by rw [h4] at e1;exact Option.some.inj e1
   left
   refine⟨rfl,⟨hb2,h.valid,Or.inr ⟨C,L++[f],0,?_,by simp,?_,fun h=>by cases h⟩⟩,he⟩
   ·refine g1.qo (by rw [hb.aa];exact vD _ _) (fun x hx=>⟨by have:=hb.mem hx;omega,h.valid x hx⟩) hb.ok.now (hb.ok.at h4) h4 ⟨(s.1.files.getD i default).b++aj f,(s.1.files.getD i default).sure⟩ (L++[f]) 0 ?_ (by simp [aV]) (Nat.zero_le _) (fun g hg=>?_)
    ·simp only;rw [e2,pg];simp [aV]
    ·rcases List.mem_append.1 hg with hg | hg
     ·exact g1.ok g (List.mem_append_right _ hg)
     ·simp at hg;subst hg;exact hF
   ·simp only;rw [g3,pg,List.length_append,← hj]
  ·rw [mE hl,e1] at h4;cases h4
 ·rw [if_neg hfit]
  rcases xP hv hlt hn1 h he with ⟨q1,q2⟩|⟨q1,q2⟩
  ·rw [aT (by exact q1)]
   have:=xO (F:=[f]) hv hlt hn1 q2 (by simpa using hF)
   rw [← hj] at this
   exact this
  ·rw [aZ (by exact q1)]
   exact Or.inr ⟨q1,q2⟩
theorem Dj {d0:ae} {l:bI} {ak:Nat} (hv:∀ x∈l.m.aa,1≤x∧x < 1000000) (hlt:∀ x∈l.m.aa,x < l.m.next) (hn1:1≤l.m.next):∀ (R P:List cz) (s:ae×List Nat×Nat),Laid d0 l.m ak P false s→(∀ f∈R,ji f∧f.ak=ak) →
  ((rowsD l (R.map aj) s).2=0∧Laid d0 l.m ak (P++R) false (rowsD l (R.map aj) s).1)∨((rowsD l (R.map aj) s).2≠0∧Beside d0 l.m (rowsD l (R.map aj) s).1)
 | [],P,s,h,_=>Or.inl ⟨rfl,by rw [List.append_nil];exact h⟩
 | f::R,P,s,h,hR=>by
  rw [List.map_cons]
  unfold rowsD
  rcases Ic hv hlt hn1 h (hR f (by simp)) with ⟨q1,q2,_⟩|⟨q1,q2⟩
  ·rw [aT q1]
   have:=Dj hv hlt hn1 R (P++[f]) _ q2 (fun g hg=>hR g (List.mem_cons_of_mem _ hg))
   rw [List.append_assoc] at this
   exact this
  ·rw [aZ q1];exact Or.inr ⟨q1,q2⟩
theorem Ba {d:ae} {l:bI} {ak:Nat} (hok:aO d) (hm:fJ l.m=true) (R:List cz) (hR:∀ f∈R,ji f∧f.ak=ak) :
  ((fK l (R.map aj) d).2=0∧Laid d l.m ak R true (fK l (R.map aj) d).1∧(fK l (R.map aj) d).1.2.1≠[])∨((fK l (R.map aj) d).2≠0∧Beside d l.m (fK l (R.map aj) d).1):=by
 have hv:∀ x∈l.m.aa,1≤x∧x < 1000000:=fun x hx=>⟨(dY hm hx).1,(dY hm hx).2.2⟩
 have hlt:∀ x∈l.m.aa,x < l.m.next:=fun x hx=>(dY hm hx).2.1
 have hn1:1≤l.m.next:=(bQ.1 hm).1.2.2.2.2.1
 have h0:Laid d l.m ak [] false (d,[],0):=⟨⟨dG.refl _ d,hok,rfl⟩,by simp,Or.inl ⟨rfl,rfl⟩⟩
 unfold fK
 rcases Dj hv hlt hn1 R [] _ h0 hR with ⟨q1,q2⟩|⟨q1,q2⟩
 case inr=>rw [aZ q1,aZ q1];exact Or.inr ⟨q1,q2⟩
 rw [aT q1]
 rw [List.nil_append] at q2
 generalize (rowsD l (R.map aj) (d,[],0)).1=s at *
 have h2:((if s.2.1=[] then dL l.m.next [] s else (s,0)).2=0∧Laid d l.m ak R false (if s.2.1=[] then dL l.m.next [] s else (s,0)).1∧(if s.2.1=[] then dL l.m.next [] s else (s,0)).1.2.1≠[])∨((if s.2.1=[] then dL l.m.next [] s else (s,0)).2≠0∧Beside d l.m (if s.2.1=[] then dL l.m.next [] s else (s,0)).1):=by
  by_cases he:s.2.1=[]
  ·rw [if_pos he]
   have h3:Laid d l.m ak R true s:=⟨q2.beside,q2.valid,by
    rcases q2.held with h1 | ⟨C,L,k,g1,_⟩
    ·exact Or.inl h1
    ·have:=g1.len;rw [he] at this;simp at this⟩
   have:=xO (F:=[]) hv hlt hn1 h3 (by simp)
   rw [List.append_nil] at this
   exact this
  ·rw [if_neg he];exact Or.inl ⟨rfl,q2,he⟩
 generalize (if s.2.1=[] then dL l.m.next [] s else (s,0))=r at *
 rcases h2 with ⟨q3,q4,q5⟩|⟨q3,q4⟩
 case inr=>rw [aZ q3];exact Or.inr ⟨q3,q4⟩
 rw [aT q3]
 rcases xP hv hlt hn1 q4 q5 with ⟨q6,q7⟩|⟨q6,q7⟩
 ·exact Or.inl ⟨q6,q7,q5⟩
 ·exact Or.inr ⟨q6,q7⟩
theorem vE {K:ByteArray→Prop}:∀ (l:List Nat) (d:ae),aO d→(∀ s∈l,¬ K (ai s))→dG K d (dropD l d)∧aO (dropD l d)
 | [],d,h,_=>⟨dG.refl K d,h⟩
 | s::r,d,h,hk=>by
  have h1:=jK (K:=K) h (hk s (by simp))
  obtain⟨h2,h3⟩:=vE r _ (jo h (ai s)) (fun x hx=>hk x (List.mem_cons_of_mem _ hx))
  exact⟨h1.trans h2,h3⟩
theorem wJ {K:ByteArray→Prop}:∀ (l:List Nat) (d:ae),aO d→(∀ s∈l,¬ K (ai s))→dG K d (iD l d)∧aO (iD l d)
 | [],d,h,_=>⟨dG.refl K d,h⟩
 | s::r,d,h,hk=>by
  have h1:=dG.remove (K:=K) h (hk s (by simp))
  obtain⟨h2,h3⟩:=wJ r _ (nZ h (ai s)) (fun x hx=>hk x (List.mem_cons_of_mem _ hx))
  exact⟨h1.trans h2,h3⟩
theorem kW {d:ae} (h:d.fail=0):¬ dC d:=by unfold dC;omega
theorem sU {d:ae} {n:ByteArray} {i:Nat} (h:d.fail=0) (hi:bP d.now n=some i):aW d n=(iE (aD d) i ⟨(d.files.getD i default).b,(d.files.getD i default).b.length⟩,0):=by
 unfold aW;rw [if_neg (kW h),hi]
theorem sV {d:ae} (h:d.fail=0):bF d=(nC (aD d),0):=by unfold bF;rw [if_neg (kW h)]
theorem iP {d:ae} (h:d.fail=0):(aD d).fail=0:=by show d.fail - 1=0;omega
theorem QG {d:ae} {i:Nat} (hi:i < d.files.length) (x:FileD) (hx:x.b.length≤fw d i) (j:Nat):fw (iE d i x) j≤fw d j:=by
 unfold fw iE at *
 simp only
 rw [eu hi]
 split
 ·rename_i e;subst e;exact hx
 ·exact Nat.le_refl _
theorem QH {α:Type} {f g:α→Nat}:∀ {l:List α},(∀ x∈l,f x≤g x)→(l.map f).sum≤(l.map g).sum
 | [],_=>Nat.le_refl _
 | a::r,h=>by
  have:=QH (l:=r) (fun x hx=>h x (List.mem_cons_of_mem _ hx))
  have h2:=h a (by simp)
  simp only [List.map_cons,List.sum_cons];omega
theorem size_set {d:ae} {i:Nat} (hi:i < d.files.length) (x:FileD) (hx:x.b.length≤fw d i):fU (iE d i x)≤fU d:=QH (fun y _=>QG hi x hx y.2)
structure QI (d d':ae):Prop where
 fail:d'.fail=0
 dZ:d'.dZ=d.dZ
 now:d'.now=d.now
 size:fU d'≤fU d
 ops:d'.ops≤d.ops+3
 chs:d'.ch=[]
 files:d'.files.length=d.files.length
def Dk (d:ae) (l:bI) (n:Nat):ae×Int:=bM (bM (if n=bytesD d (bz l) then (d,0) else kJ d (bz l) n) (fun d=>aW d (bz l))) bF
theorem QJ {d:ae} {m:cZ} {Fr:List cz} (h:lM d m Fr) (hf:d.fail=0) (size:Nat) {C:List (List cz)} {L:List cz} {b:List UInt8} (hl:m.aa.length=C.length+1)
  (hc:∀ i,i < C.length→dW d.now d.files (ai (m.aa.getD i 0)) (aV (C.getD i [])) (aV (C.getD i [])).length) (hb:dW d.now d.files (ai (m.aa.getD C.length 0)) b 0) (hp:aV L <+: b) (e:Fr=C.flatten++L) (hok:∀ f∈C.flatten++L,ji f∧f.ak=m.ak) :
  (Dk d ⟨size,m,false⟩ (aV L).length).2=0∧eZ (Dk d ⟨size,m,false⟩ (aV L).length).1 m Fr Fr.length∧QI d (Dk d ⟨size,m,false⟩ (aV L).length).1:=by
 have hlast:bz ⟨size,m,false⟩=ai (m.aa.getD C.length 0):=jJ hl
 obtain⟨i,h1,h2,h3⟩:=hb
 have hi:=h.ok.at h1
 have hbl:bytesD d (bz ⟨size,m,false⟩)=b.length:=by
  unfold bytesD iy;rw [hlast,h1,Option.map_some,h2];rfl
 have hpl:=hp.length_le
 have hbt:b.take (aV L).length=aV L:=(List.prefix_iff_eq_take.1 hp).symm
 have hv:∀ s∈m.aa,1≤s∧s < 1000000:=fun s hs=>⟨(dY h.may hs).1,(dY h.may hs).2.2⟩
 -- the last file,cut
 obtain⟨d1,hd1,x,hx1,hx2,hfl⟩:∃ d1,(if (aV L).length=bytesD d (bz ⟨size,m,false⟩) then (d,0) else kJ d (bz ⟨size,m,false⟩) (aV L).length)=(d1,0)∧∃ x:FileD,d1.files=d.files.set i x∧x.b=aV L ∧
   (d1.fail=0∧d1.dZ=d.dZ∧d1.now=d.now∧d1.ops≤d.ops+1∧aO d1):=by
  by_cases hq:(aV L).length=b.length
  ·refine⟨d,by rw [hbl,if_pos hq],d.files.getD i default,?_,?_,hf,rfl,rfl,by omega,h.ok⟩
   ·rw [List.getD_eq_getElem?_getD,List.getElem?_eq_getElem hi,Option.getD_some,List.set_getElem_self]
   ·rw [h2,← hbt,hq,List.take_length]
  ·have hcut:=Mq h.ok (bz ⟨size,m,false⟩) (aV L).length
   have ec:kJ d (bz ⟨size,m,false⟩) (aV L).length=(iE (aD d) i ⟨(d.files.getD i default).b.take (aV L).length,(aV L).length⟩,0):=by
    unfold kJ;rw [if_neg (kW hf),hlast,h1]
    simp only
    rw [if_neg (by unfold fw;rw [h2];omega)]
    simp
   rw [ec] at hcut
   refine⟨iE (aD d) i ⟨(d.files.getD i default).b.take (aV L).length,(aV L).length⟩,by rw [hbl,if_neg hq,ec],⟨(d.files.getD i default).b.take (aV L).length,(aV L).length⟩,rfl,?_,iP hf,rfl,rfl,Nat.le_refl _,hcut⟩
   simp only;rw [h2,hbt]
 obtain⟨f1,f2,f3,f4,f5⟩:=hfl
 have hn1:bP d1.now (bz ⟨size,m,false⟩)=some i:=by rw [f3,hlast];exact h1
 have hx3:d1.files.getD i default=x:=by rw [hx1,eu hi,if_pos rfl]
 have hs:=sU f1 hn1
 rw [hx3] at hs
 have hk2:=gG f5 (bz ⟨size,m,false⟩)
 rw [hs] at hk2
 have hsd:=sV (d:=iE (aD d1) i ⟨x.b,x.b.length⟩) (iP f1)
 have hE:Dk d ⟨size,m,false⟩ (aV L).length=(nC (aD (iE (aD d1) i ⟨x.b,x.b.length⟩)),0):=by
  unfold Dk
  have t1:bM (d1,(0:Int)) (fun d=>aW d (bz ⟨size,m,false⟩))=aW d1 (bz ⟨size,m,false⟩):=aT rfl
  have t2:bM (iE (aD d1) i ⟨x.b,x.b.length⟩,(0:Int)) bF=bF (iE (aD d1) i ⟨x.b,x.b.length⟩):=aT rfl
  rw [hd1,t1,hs,t2,hsd]
 have Kc:(iE (aD d1) i ⟨x.b,x.b.length⟩).files=d.files.set i ⟨x.b,x.b.length⟩:=by
  show d1.files.set i _=_
  rw [hx1,List.set_set]
 have ZK:Holds d.now (d.files.set i ⟨x.b,x.b.length⟩) m Fr Fr.length:=by
  refine⟨h.may,h.head.ED h.ok.now hi h1 (fun e=>lK _ e.symm) _,C,L,L.length,⟨hl,fun j hj=>(hc j hj).ED h.ok.now hi h1 (fun e=>?_) _,?_,Nat.le_refl _,hok⟩,e,by rw [e,List.length_append];exact Nat.le_refl _⟩
  ·have h4:=getD_inj (qh h.may) (i:=j) (j:=C.length) (by omega) (by omega) hj
   have:=mX (hv _ (iO (by omega))) (hv _ (iO (by omega))) e
   omega
  ·have:=dW.Kb hi h1 ⟨x.b,x.b.length⟩
   simp only [hx2] at this ⊢
   rw [List.take_length]
   exact this
 rw [hE]
 refine⟨rfl,?_,⟨iP (iP f1),f2,f3,?_,?_,rfl,?_⟩⟩
 ·refine zK (bV hk2) ?_
  show Holds d1.now (iE (aD d1) i ⟨x.b,x.b.length⟩).files m Fr Fr.length
  rw [Kc,f3]
  exact ZK
 ·have hle:x.b.length≤fw d i:=by unfold fw;rw [hx2,h2];exact hpl
  have:=size_set hi ⟨x.b,x.b.length⟩ hle
  show fU (nC (aD (iE (aD d1) i ⟨x.b,x.b.length⟩)))≤fU d
  refine Nat.le_trans (Nat.le_of_eq ?_) this
  show (d1.now.map (fun y=>(((iE (aD d1) i ⟨x.b,x.b.length⟩).files).getD y.2 default).b.length)).sum=(d.now.map (fun y=>((d.files.set i ⟨x.b,x.b.length⟩).getD y.2 default).b.length)).sum
  rw [Kc,f3]
 ·show d1.ops+1+1≤d.ops+3
  omega
 ·show (iE (aD d1) i ⟨x.b,x.b.length⟩).files.length=_
  rw [Kc,List.length_set]
theorem Mt {σ:Type} (each:σ→cz→σ×Int) {d:ae} {m:cZ} {Fr:List cz} (h:lM d m Fr) (hf:d.fail=0) (size:Int) (s:σ) :
  ∃ d',df each size d s=(if (tellAll each m.ak Fr s).2≠0 then ((tellAll each m.ak Fr s).1,d,none,(tellAll each m.ak Fr s).2) else ((tellAll each m.ak Fr s).1,d',some ⟨sized size,m,false⟩,0))∧eZ d' m Fr Fr.length∧QI d d':=by
 obtain⟨C,L,b,hl,hc,hb,h1,h2,h3,h4,h5⟩:=h.aa
 obtain⟨e1,e2,e3⟩:=QJ h hf (sized size) hl hc hb h3 h4 h5
 refine⟨_,?_,e2,e3⟩
 have hs:=AX each hl (fun i hi=>(hc i hi).read) hb.read h1 (fun f hf=>(h5 f hf).1) (C.length+1) 0 0 s (by omega) (by omega)
 rw [List.drop_zero,← h4,h2] at hs
 unfold df
 rw [h.head.read]
 simp only
 rw [Ms h.may]
 simp only
 rw [if_neg (by simp),hl,hs]
 by_cases ht:(tellAll each m.ak Fr s).2≠0
 ·simp only [if_pos ht]
 ·simp only [if_neg ht]
  rw [if_neg (by simp)]
  have hE:bM (bM (if (aV L).length=bytesD d (bz ⟨sized size,m,false⟩) then (d,0) else kJ d (bz ⟨sized size,m,false⟩) (aV L).length) (fun d=>aW d (bz ⟨sized size,m,false⟩))) bF=Dk d ⟨sized size,m,false⟩ (aV L).length:=rfl
  rw [hE,if_neg (by rw [e1];simp)]
theorem lM.ak {d:ae} {m:cZ} {Fr:List cz} (h:lM d m Fr):∀ f∈Fr,ji f∧f.ak=m.ak:=by
 obtain⟨C,L,b,hl,hc,hb,h1,h2,h3,h4,h5⟩:=h.aa
 rw [h4];exact h5
structure Rm (d:ae) (B n:Nat):Prop where
 fail:d.fail=0
 bytes:fU d+B≤d.dZ
 names:d.now.length+n≤200
 small:d.dZ≤1048576
theorem Rm.le {d:ae} {B n B' n':Nat} (h:Rm d B n) (hB:B'≤B) (hn:n'≤n):Rm d B' n':=⟨h.fail,by have:=h.bytes;omega,by have:=h.names;omega,h.small⟩
theorem Rm.same {d d':ae} {B n:Nat} (h:Rm d B n) (h1:d'.fail=0) (h2:d'.dZ=d.dZ) (h3:fU d'≤fU d) (h4:d'.now.length≤d.now.length):Rm d' B n:=
 ⟨h1,by rw [h2];have:=h.bytes;omega,by have:=h.names;omega,by rw [h2];exact h.small⟩
theorem Rm.tick {d:ae} {B n:Nat} (h:Rm d B n):Rm (aD d) B n:=h.same (iP h.fail) rfl (Nat.le_refl _) (Nat.le_refl _)
theorem Bb {l l':gI} (f:ByteArray×Nat→Nat) (h:l.Perm l'):(l.map f).sum=(l'.map f).sum:=(h.map f).sum_nat
theorem zL {f:ByteArray×Nat→Nat}:∀ {l l':gI},l.Sublist l'→(l.map f).sum≤(l'.map f).sum
 | _,_,.slnil=>Nat.le_refl _
 | _,_,.cons a h=>by have:=zL (f:=f) h;simp only [List.map_cons,List.sum_cons];omega
 | _,_,.cons_cons a h=>by have:=zL (f:=f) h;simp only [List.map_cons,List.sum_cons];omega
theorem EI {d:ae} {n:ByteArray} {i:Nat} (hi:bP d.now n=some i):fw d i≤fU d:=by
 have hm:=gD hi
 unfold fU
 have:∀ (l:gI),(n,i)∈l→fw d i≤(l.map (fun x=>fw d x.2)).sum:=by
  intro l
  induction l with
  | nil=>intro h;simp at h
  | cons a r ih=>
   intro h
   simp only [List.map_cons,List.sum_cons]
   rcases List.mem_cons.1 h with e | h
   ·rw [← e];simp only;omega
   ·have:=ih h;omega
 exact this _ hm
theorem size_grow {d:ae} {i:Nat} (hi:i < d.files.length) (x:FileD) {k:Nat} (hx:x.b.length≤fw d i+k):∀ (l:gI),(l.map (·.2)).Nodup→(l.map (fun y=>fw (iE d i x) y.2)).sum≤(l.map (fun y=>fw d y.2)).sum+k
 | [],_=>by simp
 | a::r,hn=>by
  obtain⟨n1,n2⟩:=List.nodup_cons.1 hn
  simp only [List.map_cons,List.sum_cons]
  by_cases e:a.2=i
  ·have h1:fw (iE d i x) a.2≤fw d a.2+k:=by
    unfold fw iE at *
    simp only
    rw [eu hi,if_pos e,e];exact hx
   have h2:(r.map (fun y=>fw (iE d i x) y.2))=(r.map (fun y=>fw d y.2)):=List.map_congr_left (fun y hy=>by
    unfold fw iE
    simp only
    rw [eu hi,if_neg (fun e2=>n1 (List.mem_map.2 ⟨y,hy,e2.trans e.symm⟩))])
   rw [h2];omega
  ·have h1:fw (iE d i x) a.2=fw d a.2:=by
    unfold fw iE
    simp only
    rw [eu hi,if_neg e]
   have:=size_grow hi x hx r n2
   omega
theorem xQ {d:ae} {B n:Nat} (hok:aO d) (h:Rm d B n) {nm:ByteArray} (hn:gU nm=true) {b:List UInt8} (hb:b.length≤B) (h1:bP d.now nm=none→1≤n) :
  (aI d nm b).2=0∧Rm (aI d nm b).1 (B - b.length) (if bP d.now nm=none then n - 1 else n)∧(bP d.now nm≠none→(aI d nm b).1.now=d.now):=by
 have hq:=h.bytes
 have hq2:=h.small
 have hnm:=h.names
 have hroom:jW d (bP d.now nm) b.length=true:=by
  rw [xI]
  refine⟨by omega,by omega,?_,fun e=>?_⟩
  ·cases e:bP d.now nm with
   | none=>simp only;omega
   | some i=>have:=EI e;simp only;omega
  ·have:=h1 e;omega
 rcases gp d nm b with ⟨e,h2,he⟩|⟨_,_,_,⟨i,h4,h5⟩|⟨h4,h5⟩⟩
 ·exfalso
  unfold aI at h2
  rw [if_neg (kW h.fail),if_neg (by simp [hn]),if_neg (by simp [hroom])] at h2
  have h3:=congrArg Prod.snd h2
  split at h3 <;> (simp only at h3;omega)
 ·rw [h5,h4]
  have hi:=hok.at h4
  have hsz:fU (jd (aD d) i b)≤fU d+b.length:=by
   refine size_grow (d:=aD d) hi _ (k:=b.length) ?_ d.now hok.now.ids
   simp only [fw,List.length_append];exact Nat.le_refl _
  refine⟨rfl,⟨iP h.fail,?_,by simp only [if_neg (by simp:¬ (some i=none))];exact hnm,hq2⟩,fun _=>rfl⟩
  show fU (jd (aD d) i b)+(B - b.length)≤d.dZ
  omega
 ·rw [h5,h4]
  have hp:=nW d.now nm d.files.length
  rw [AO h4] at hp
  have hsz:fU (jd (bu (dU (aD d)) (.made nm d.files.length)) d.files.length b)≤fU d+b.length:=by
   show ((iN d.now nm d.files.length).map (fun y=>fw (iE (bu (dU (aD d)) (.made nm d.files.length)) d.files.length _) y.2)).sum≤_
   refine Nat.le_trans (size_grow (d:=bu (dU (aD d)) (.made nm d.files.length)) (by simp [bu,dU,aD]) _ (k:=b.length) ?_ (iN d.now nm d.files.length) ?_) ?_
   ·simp only [fw,List.length_append];exact Nat.le_refl _
   ·refine (hp.map (·.2)).nodup_iff.2 (List.nodup_cons.2 ⟨fun hm=>?_,hok.now.ids⟩)
    obtain⟨x,hx,e⟩:=List.mem_map.1 hm
    have:=hok.now.lt x hx
    simp only at e;omega
   ·rw [Bb _ hp]
    simp only [List.map_cons,List.sum_cons]
    have e1:fw (bu (dU (aD d)) (.made nm d.files.length)) d.files.length=0:=by
     simp [fw,bu,dU,aD]
    have e2:d.now.map (fun y=>fw (bu (dU (aD d)) (.made nm d.files.length)) y.2)=d.now.map (fun y=>fw d y.2):=List.map_congr_left (fun y hy=>by
     have:=hok.now.lt y hy
     simp only [fw,bu,dU,aD,List.getD_eq_getElem?_getD]
     rw [List.getElem?_append_left this])
    rw [e1,e2];unfold fU;omega
  have:=h1 h4
  refine⟨rfl,⟨iP h.fail,?_,?_,hq2⟩,fun h=>absurd rfl h⟩
  ·show fU (jd (bu (dU (aD d)) (.made nm d.files.length)) d.files.length b)+(B - b.length)≤d.dZ
   omega
  ·rw [if_pos rfl]
   show (iN d.now nm d.files.length).length+_≤200
   rw [hp.length_eq,List.length_cons];omega
theorem mP {d:ae} {B n:Nat} (hok:aO d) (h:Rm d B n) {nm:ByteArray} {i:Nat} (hi:bP d.now nm=some i):(aW d nm).2=0∧Rm (aW d nm).1 B n∧(aW d nm).1.now=d.now:=by
 rw [sU h.fail hi]
 refine⟨rfl,h.same (iP h.fail) rfl ?_ (Nat.le_refl _),rfl⟩
 exact size_set (d:=aD d) (hok.at hi) _ (Nat.le_refl _)
theorem XA {d:ae} {B n:Nat} (h:Rm d B n):(bF d).2=0∧Rm (bF d).1 B n:=by
 rw [sV h.fail]
 exact⟨rfl,h.same (iP h.fail) rfl (Nat.le_refl _) (Nat.le_refl _)⟩
theorem QK (d:ae) (n:ByteArray):((ed d.now n).map (fun y=>fw d y.2)).sum≤fU d:=zL List.filter_sublist
theorem Dl {d:ae} {B n:Nat} (h:Rm d B n) {nm:ByteArray} {i:Nat} (hi:bP d.now nm=some i):(cO d nm).2=0∧Rm (cO d nm).1 B n:=by
 unfold cO
 rw [if_neg (kW h.fail),hi]
 exact⟨rfl,h.same (iP h.fail) rfl (QK d nm) (xH _ _)⟩
theorem Dm {d:ae} {B n:Nat} (hok:aO d) (h:Rm d B n) {a b:ByteArray} {i:Nat} (hi:bP d.now a=some i) (hb:gU b=true) (hab:a≠b):(bZ d a b).2=0∧Rm (bZ d a b).1 B n:=by
 unfold bZ
 rw [if_neg (kW h.fail),hi]
 simp only
 rw [if_neg (by simp [hb]),if_neg hab]
 have e:nmDo d.now (.ren a b)=ed (iN d.now b i) a:=by simp [nmDo,hi]
 have hdp:(ed (iN d.now b i) a).Perm ((b,i)::ed (ed d.now b) a):=by
  have:=(nW d.now b i).filter (fun x=>decide (x.1≠a))
  unfold ed at this ⊢
  rwa [List.filter_cons,if_pos (by simpa using fun h=>hab h.symm)] at this
 have ZL:d.now.Perm ((a,i)::ed d.now a):=by
  have hm:=gD hi
  have hnd:d.now.Nodup:=List.Pairwise.imp (fun {a b} hl e=>by subst e;rw [AA] at hl;cases hl) hok.now.row
  refine (List.perm_ext_iff_of_nodup hnd ?_).2 (fun x=>?_)
  ·refine List.nodup_cons.2 ⟨fun hx=>(fV.1 hx).2 rfl,?_⟩
   exact hnd.filter _
  ·rw [List.mem_cons,fV]
   constructor
   ·intro hx
    by_cases ex:x.1=a
    ·left
     have:x.2=i:=Qs (jB.keys hok.now.row) (n:=a) (by rw [← ex];exact hx) hm
     rw [← ex,← this]
    ·exact Or.inr ⟨hx,ex⟩
   ·rintro (rfl | ⟨hx,_⟩)
    ·exact hm
    ·exact hx
 have hsub:(ed (ed d.now b) a).Sublist (ed d.now a):=by
  unfold ed
  exact (List.filter_sublist (l:=d.now)).filter _
 refine⟨rfl,h.same (iP h.fail) rfl ?_ ?_⟩
 ·show ((nmDo d.now (.ren a b)).map (fun y=>fw d y.2)).sum≤fU d
  rw [e,Bb _ hdp]
  unfold fU
  rw [Bb _ ZL]
  have:=zL (f:=fun y=>fw d y.2) hsub
  simp only [List.map_cons,List.sum_cons];omega
 ·show (nmDo d.now (.ren a b)).length≤d.now.length
  rw [e,hdp.length_eq,ZL.length_eq,List.length_cons,List.length_cons]
  have:=hsub.length_le;omega
theorem sW {d:ae} {B n:Nat} (h:Rm d B n) (nm:ByteArray):(bH nm d).2=0∧Rm (bH nm d).1 B n:=by
 unfold bH
 by_cases hs:(bP d.now nm).isSome
 ·rw [if_pos hs]
  obtain⟨i,hi⟩:=Option.isSome_iff_exists.1 hs
  exact Dl h hi
 ·rw [if_neg hs];exact⟨rfl,h⟩
theorem Mv {m:cZ} (h:fJ m=true):(aj (dP m)).length≤278:=by
 rw [dJ]
 have:(dP m).body=jD m:=rfl
 rw [this,lJ]
 have:=(bQ.1 h).1.2.2.2.1
 omega
theorem Ie {d:ae} {B n:Nat} (hok:aO d) {m:cZ} (hm:fJ m=true) (h:Rm d (B+278) (n+1)):(eY m d).2=0∧Rm (eY m d).1 B n:=by
 have hl:=Mv hm
 obtain⟨a1,a2⟩:=sW h az
 have a3:=jo hok az
 have a4:=jh (n:=az) hok
 have hfresh:eY m d=bM (bM (bM (bH az d) (fun d=>aI d az (aj (dP m)))) (fun d=>aW d az)) (fun d=>bZ d az bG):=rfl
 generalize bH az d=r1 at *
 rw [aT a1] at hfresh
 obtain⟨b1,b2,_⟩:=xQ a3 a2 (nm:=az) (by decide) (b:=aj (dP m)) (by omega) (fun _=>by omega)
 have b3:=gV a3 az (aj (dP m))
 have b4:=jL a3 (b:=aj (dP m)) (a4 a1) b1
 rw [if_pos (a4 a1)] at b2
 generalize aI r1.1 az (aj (dP m))=r2 at *
 rw [aT b1] at hfresh
 obtain⟨i,i1,_,_⟩:=b4
 obtain⟨c1,c2,c4⟩:=mP b3 b2 i1
 have c3:=gG b3 az
 generalize aW r2.1 az=r3 at *
 rw [aT c1] at hfresh
 rw [hfresh]
 obtain⟨e1,e2⟩:=Dm c3 c2 (a:=az) (b:=bG) (i:=i) (by rw [c4];exact i1) (by decide) (fun e=>je e.symm)
 exact⟨e1,e2.le (by omega) (by omega)⟩
theorem xR {d:ae} {B n:Nat} (hok:aO d) {m:cZ} (hm:fJ m=true) (h:Rm d (B+278) (n+1)):(aG m d).2.1=true∧(aG m d).2.2=0∧Rm (aG m d).1 B n:=by
 obtain⟨a1,a2⟩:=Ie hok hm h
 unfold aG
 rw [if_neg (by simp [hm]),if_neg (by simp [a1])]
 obtain⟨b1,b2⟩:=XA a2
 exact⟨rfl,b1,b2⟩
theorem uo {s:Nat} (h:1≤s∧s < 1000000):gU (ai s)=true:=by
 unfold gU;rw [pI h];rfl
theorem wK {d:ae} {B n s:Nat} (hok:aO d) (hs:1≤s∧s < 1000000) (h:Rm d B (n+1)):(dM s d).2=0∧Rm (dM s d).1 B n∧aO (dM s d).1∧dW (dM s d).1.now (dM s d).1.files (ai s) [] 0:=by
 obtain⟨a1,a2⟩:=sW h (ai s)
 have a3:=jo hok (ai s)
 have a4:=jh (n:=ai s) hok
 have hb:dM s d=bM (bH (ai s) d) (fun d=>aI d (ai s) []):=rfl
 generalize bH (ai s) d=r1 at *
 rw [aT a1] at hb
 obtain⟨b1,b2,_⟩:=xQ a3 a2 (uo hs) (b:=[]) (by simp) (fun _=>by omega)
 rw [if_pos (a4 a1)] at b2
 rw [hb]
 exact⟨b1,b2.le (by simp) (by omega),gV a3 _ _,jL a3 (a4 a1) b1⟩
theorem Mw {d:ae} {l:bI} {Fr:List cz} {s B n:Nat} (h:eZ d l.m Fr s) (hr:Rm d (B+278) (n+2)) (hs:l.m.aa.length < 64) (hn:l.m.next < 1000000) :
  (gY (d,l)).2=0∧Rm (gY (d,l)).1.1 B n∧(gY (d,l)).1.2.m=gM l:=by
 obtain⟨_,hm1⟩:=bQ.1 h.now.1
 have hn1:=(bQ.1 h.now.1).1.2.2.2.2.1
 have hmt:fJ (gM l)=true:=by
  obtain⟨⟨v1,v2,s1,s2,n1,n2⟩,hu⟩:=bQ.1 h.now.1
  refine bQ.2 ⟨⟨v1,v2,by simp [gM],by simp [gM];omega,by simp [gM],by simp [gM];omega⟩,?_⟩
  refine EC ?_ (fun x hx=>?_)
  ·refine List.pairwise_append.2 ⟨qh h.now.1,List.pairwise_singleton _ _,fun a ha b hb=>?_⟩
   simp at hb;subst hb
   exact (dY h.now.1 ha).2.1
  ·rcases List.mem_append.1 hx with hx | hx
   ·have:=dY h.now.1 hx;exact⟨by omega,by simp [gM];omega⟩
   ·simp at hx;subst hx;exact⟨by omega,by simp [gM]⟩
 unfold gY
 simp only
 rw [if_neg (by omega)]
 have e1:gW (fun d=>aW d (bz l)) (d,l)=(((aW d (bz l)).1,l),(aW d (bz l)).2):=rfl
 rw [e1]
 obtain⟨C,L,k,g1,rfl,g3⟩:=h.now.2.2
 obtain⟨i,i1,_,_⟩:=g1.last
 rw [← jJ g1.len] at i1
 obtain⟨a1,a2,a3⟩:=mP h.ok hr i1
 have a4:=gG h.ok (bz l)
 generalize aW d (bz l)=r1 at *
 have a1':(((r1.1,l),r1.2):DL×Int).2=0:=a1
 rw [aT a1']
 have e2:gW (dM l.m.next) (r1.1,l)=(((dM l.m.next r1.1).1,l),(dM l.m.next r1.1).2):=rfl
 rw [e2]
 obtain⟨b1,b2,b3,b4⟩:=wK a4 ⟨hn1,hn⟩ (n:=n+1) a2
 generalize dM l.m.next r1.1=r2 at *
 have b1':(((r2.1,l),r2.2):DL×Int).2=0:=b1
 rw [aT b1']
 have e3:gW (fun d=>aW d (ai l.m.next)) (r2.1,l)=(((aW r2.1 (ai l.m.next)).1,l),(aW r2.1 (ai l.m.next)).2):=rfl
 rw [e3]
 obtain⟨j,j1,_,_⟩:=b4
 obtain⟨c1,c2,c3⟩:=mP b3 b2 j1
 have c4:=gG b3 (ai l.m.next)
 generalize aW r2.1 (ai l.m.next)=r3 at *
 have c1':(((r3.1,l),r3.2):DL×Int).2=0:=c1
 rw [aT c1']
 obtain⟨d1,d2,d3⟩:=xR c4 hmt c2
 unfold dD
 simp only
 rw [if_pos d1]
 exact⟨d2,d3,rfl⟩
theorem Dn {d:ae} {l:bI} {Fr:List cz} {s B n:Nat} (h:eZ d l.m Fr s) (hl:l.loose=false) (kind:Int) (body:List UInt8) (hr:Rm d (B+278+(16+body.length)) (n+2)) (hs:l.m.aa.length < 64) (hn:l.m.next < 1000000) (hp:gu kind l.m.ak body.length=0) :
  (bY kind body (d,l)).2=0∧Rm (bY kind body (d,l)).1.1 B n∧(bY kind body (d,l)).1.2.m.aa.length≤l.m.aa.length+1∧(bY kind body (d,l)).1.2.m.next≤l.m.next+1:=by
 have hset:aY (d,l)=((d,l),0):=by unfold aY;simp [hl]
 unfold bY
 simp only
 rw [if_neg (by simp [hp]),hset,aT (r:=((d,l),(0:Int))) rfl]
 simp only
 have hfl:(aj ⟨kind.toNat,l.m.ak,body⟩).length=16+body.length:=dJ _
 generalize Ib:(if lI l (bytesD d (bz l)) (aj ⟨kind.toNat,l.m.ak,body⟩).length=true then ((d,l),(0:Int)) else gY (d,l))=r2
 have h5:r2.2=0∧Rm r2.1.1 (B+(16+body.length)) n∧r2.1.2.m.aa.length≤l.m.aa.length+1∧r2.1.2.m.next≤l.m.next+1∧r2.1.2.m.ak=l.m.ak∧∃ zt s',eZ r2.1.1 r2.1.2.m zt s':=by
  rw [← Ib]
  split
  ·exact⟨rfl,hr.le (by omega) (by omega),by simp only;omega,by simp only;omega,rfl,Fr,s,h⟩
  ·obtain⟨t1,t2,t3⟩:=Mw (B:=B+(16+body.length)) (n:=n) h (by rw [show B+(16+body.length)+278=B+278+(16+body.length) by omega];exact hr) hs hn
   obtain⟨_,u2,u3⟩:=AY h hl
   refine⟨t1,t2,by rw [t3];simp [gM],by rw [t3];simp [gM],u2,?_⟩
   rcases u3 with ⟨_,_,u6⟩|⟨u4,_⟩
   ·exact⟨_,_,u6⟩
   ·exact absurd t1 u4
 clear Ib
 obtain⟨h6,h7,h8,h9,h10,zt,s',h11⟩:=h5
 rw [aT h6]
 unfold gW
 simp only
 obtain⟨C,L,k,g1,_,g3⟩:=h11.now.2.2
 obtain⟨i,i1,_,_⟩:=g1.last
 rw [← jJ g1.len] at i1
 have hsn:gU (bz r2.1.2)=true:=by
  rw [jJ g1.len]
  exact uo (h11.valid _ (iO (by rw [g1.len];omega)))
 obtain⟨w1,w2,_⟩:=xQ h11.ok h7 hsn (b:=aj ⟨kind.toNat,l.m.ak,body⟩) (by rw [hfl];omega) (fun e=>by rw [i1] at e;cases e)
 rw [if_neg (by rw [i1];simp)] at w2
 exact⟨w1,w2.le (by rw [hfl];omega) (Nat.le_refl _),h8,h9⟩
/-! A new log. -/
theorem Ke {d:ae} {m:cZ} {Fr:List cz} {s:Nat} (hok:aO d) (h':jf d.now d.files m.aa m.ak Fr s) (h0:(aG m d).2.2=0) (hc:(aG m d).2.1=true):eZ (aG m d).1 m Fr s:=by
 unfold aG at h0 hc ⊢
 by_cases hm:fJ m=false
 ·rw [if_pos hm] at hc;cases hc
 have hm':fJ m=true:=by simpa using hm
 rw [if_neg hm] at h0 hc ⊢
 have nf:¬ (fun n=>n≠az) az:=fun h=>h rfl
 have hk:∀ (aa:List Nat) n,Mine aa n→n≠az:=fun aa n hn e=>rE (e ▸ hn)
 have o1:=jK (K:=fun n=>n≠az) hok nf
 have k1:=jo hok az
 have n1:=jh (n:=az) hok
 have hfresh:eY m d=bM (bM (bM (bH az d) (fun d=>aI d az (aj (dP m)))) (fun d=>aW d az)) (fun d=>bZ d az bG):=rfl
 by_cases hz:(eY m d).2≠0
 ·rw [if_pos hz] at hc;cases hc
 rw [if_neg hz] at h0 ⊢
 simp only at h0 ⊢
 generalize bH az d=r1 at *
 by_cases e1:r1.2=0
 case neg=>rw [aZ e1,aZ e1,aZ e1] at hfresh;rw [hfresh] at hz;exact absurd e1 hz
 rw [aT e1] at hfresh
 have o2:=o1.trans (dG.append (K:=fun n=>n≠az) k1 nf (aj (dP m)))
 have k2:=gV k1 az (aj (dP m))
 have n2:=jL k1 (b:=aj (dP m)) (n1 e1)
 generalize aI r1.1 az (aj (dP m))=r2 at *
 by_cases e2:r2.2=0
 case neg=>rw [aZ e2,aZ e2] at hfresh;rw [hfresh] at hz;exact absurd e2 hz
 rw [aT e2] at hfresh
 have o3:=o2.trans (dG.sync (K:=fun n=>n≠az) k2 nf)
 have k3:=gG k2 az
 have n3:=wH k2 (n2 e2)
 generalize aW r2.1 az=r3 at *
 by_cases e3:r3.2=0
 case neg=>rw [aZ e3] at hfresh;rw [hfresh] at hz;exact absurd e3 hz
 rw [aT e3] at hfresh
 have g3:jf r3.1.now r3.1.files m.aa m.ak Fr s:=h'.congr (fun n hn=>o3.names n (hk _ n hn)) (fun n i hn hi=>o3.files n i (hk _ n hn) hi)
 obtain⟨x,x1,x2,x3⟩:=n3 e3
 rcases jw r3.1 az bG with ⟨e,h4,he⟩|⟨_,_,_,⟨h4,_⟩|⟨_,h4⟩⟩
 ·rw [h4] at hfresh;rw [hfresh] at hz;simp only at hz;omega
 ·exact absurd h4.symm je
 ·have k4:=nY k3 az bG
  rw [h4] at hfresh k4
  rw [hfresh] at h0 ⊢
  simp only at k4 h0 ⊢
  have hat:∀ n,n≠az→bP (bu (aD r3.1) (.ren az bG)).now n=if n=bG then some x else bP r3.1.now n:=fun n hn=>by
   show bP (nmDo r3.1.now (.ren az bG)) n=_
   have e:nmDo r3.1.now (.ren az bG)=ed (iN r3.1.now bG x) az:=by simp only [nmDo,x1]
   rw [e,nX (mq k3.now.row _ _),if_neg hn,qd k3.now.row]
  have Ur:Holds (bu (aD r3.1) (.ren az bG)).now (bu (aD r3.1) (.ren az bG)).files m Fr s:=by
   refine⟨hm',⟨x,by rw [hat _ je,if_pos rfl],x2,x3⟩,?_⟩
   obtain⟨C,L,k,c1,c2,c3⟩:=g3
   have hsn:∀ i,bP (bu (aD r3.1) (.ren az bG)).now (ai i)=bP r3.1.now (ai i):=fun i=>by
    rw [hat _ (pJ _),if_neg (lK _)]
   exact⟨C,L,k,⟨c1.len,fun i hi=>(c1.closed i hi).congr (hsn _) (fun _ _=>rfl),c1.last.congr (hsn _) (fun _ _=>rfl),c1.few,c1.ok⟩,c2,c3⟩
  rcases gF (bu (aD r3.1) (.ren az bG)) with h6 | ⟨_,h6⟩
  ·rw [h6] at h0;simp at h0
  ·rw [h6];exact zK (bV k4) Ur
theorem Dp {d:ae} {B n:Nat} (hok:aO d) (hr:Rm d (B+278) (n+2)) (hh:bP d.now bG=none) {v:Nat} (hv:1≤v∧v≤3) (size:Int) :
  ∃ d',cu v size d=(d',some ⟨sized size,firstM v,false⟩,0)∧eZ d' (firstM v) [] 0∧Rm d' B n:=by
 have hmt:fJ (firstM v)=true:=by
  refine bQ.2 ⟨⟨hv.1,hv.2,by simp [firstM],by simp [firstM],by simp [firstM],by simp [firstM]⟩,?_⟩
  simp [firstM,upB]
 obtain⟨b1,b2,b3,b4⟩:=wK hok (s:=1) (by omega) (n:=n+1) hr
 have b4':=b4
 obtain⟨j,j1,_,_⟩:=b4'
 obtain⟨c1,c2,c3⟩:=mP b3 b2 j1
 have c4:=gG b3 (ai 1)
 have c5:=wH b3 b4 c1
 obtain⟨d1,d2,d3⟩:=xR c4 hmt c2
 have hF:=Ke (m:=firstM v) (Fr:=[]) (s:=0) c4 ⟨[],[],0,⟨rfl,fun i hi=>by simp at hi,c5,Nat.le_refl _,by simp⟩,by simp,by simp⟩ d2 d1
 refine⟨_,?_,hF,d3⟩
 unfold cu
 rw [if_neg (by omega),hh]
 simp only [Option.isSome_none,Bool.false_eq_true,if_false,Int.toNat_natCast]
 rw [aT (r:=dM 1 d) b1,aT (r:=aW (dM 1 d).1 (ai 1)) c1]
 simp only
 rw [if_neg (by rw [d2];simp)]
end Go.Proofs.YtanhdliaaccacaaGreat
