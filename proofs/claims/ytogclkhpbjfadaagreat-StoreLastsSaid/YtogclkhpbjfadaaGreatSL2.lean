/- Parts of the proof that behind any crash a store's state is the sure one and a beginning of what was written since. -/
import Derived.Test.YtogclkhpbjfadaaGreatCK25
import Derived.Test.YtogclkhpbjfadaaGreatCK5
import Derived.Test.YtogclkhpbjfadaaGreatCK29
import Derived.ArgAppend
import Derived.Test.YtogclkhpbjfadaaGreatCK33
import Derived.Test.YtogclkhpbjfadaaGreatSL1
import Derived.Deep.DeepCutAuto
namespace Go.Proofs.YtogclkhpbjfadaaGreat
open Go.RowKit
set_option linter.unusedVariables false
set_option maxHeartbeats 64000000
set_option maxRecDepth 100000
def abT (T:TypeId) (k g o n cap:Nat) (xs:List Value):az:=fun w F=>F=[g]∧xs.length=n * k∧n≤cap∧cap≤maxLen∧∃ cur:Array Value,w.heap[g]?=some (.cells cur T (0,0))∧cur.size=(o+cap) * k∧(cur.toList.drop (o * k)).take (n * k)=xs
theorem abT.aA (T:TypeId) (k g o n cap:Nat) (xs:List Value):bC (abT T k g o n cap xs):=by
 refine⟨?_,?_⟩
 ·rintro w w' F ⟨rfl,h1,h2,h3,cur,h4,h5⟩ hk
  exact⟨rfl,h1,h2,h3,cur,by rw [hk g (by simp)];exact h4,h5⟩
 ·rintro w F ⟨rfl,h1,h2,h3,cur,h4,h5⟩ b hb
  simp at hb;subst hb;exact jU h4
theorem abT.cell {T:TypeId} {k g o n cap:Nat} {xs:List Value} {w:World} {F:List Nat} (h:abT T k g o n cap xs w F):∀ j u,xs[j]?=some u→w.cell? ⟨g,o * k+j,none⟩=some u:=by
 obtain⟨_,h1,h2,h3,cur,h4,h5,h6⟩:=h
 intro j u hu
 rw [← h6,List.getElem?_take] at hu
 split at hu
 ·rw [List.getElem?_drop] at hu
  exact cell_of h4 (by rw [← hu,Array.getElem?_toList])
 ·cases hu
section
variable {F0:List Nat} {w0 w:World} {R:List az} {T:TypeId} {k g o n cap:Nat} {xs:List Value}
theorem In.acY {v:Value} (h:In F0 w0 w R) (i:Nat) (hA:R[i]?=some (ay T k v n xs)) (hn:0 < n):∃ g cap,v=.slice (some ⟨g,0,none⟩) n cap∧In F0 w0 w (R.set i (abT T k g 0 n cap xs)):=by
 obtain⟨F,h0,h1,h2⟩:=h.get i hA
 rcases h2 with ⟨_,e⟩|⟨g,cap,cur,rfl,h3,h4,h5,h6,h7,h8⟩
 ·omega
 ·refine⟨g,cap,rfl,h.imp i hA (abT.aA _ _ _ _ _ _ _) fun F' hF'=>⟨hF'.1,h1,h5,h6,cur,h4,by rw [h7,Nat.zero_add],by rw [Nat.zero_mul,List.drop_zero];exact h8⟩⟩
theorem In.acM (h:In F0 w0 w R) (i:Nat) (hA:R[i]?=some (abT T k g o n cap xs)) (j:Nat) (hj:j≤n):In F0 w0 w (R.set i (abT T k g (o+j) (n - j) (cap - j) (xs.drop (j * k)))):=
 h.imp i hA (abT.aA _ _ _ _ _ _ _) fun F ⟨h0,h1,h2,h3,cur,h4,h5,h6⟩=>
  ⟨h0,by rw [List.length_drop,h1,Nat.sub_mul],by omega,by omega,cur,h4,by rw [h5];congr 1;omega,by
   rw [← h6,List.drop_take,List.drop_drop,← Nat.add_mul,← Nat.sub_mul]⟩
theorem acH {P:Program} {ST:TypeId} {by':Nat} (hST:P.underlying ST=some (.slice T)) (dL:(P.info? T).map (fun i=>(i.zero.map (fun z=>z.cells.size),i.size,i.bytes))=some (some k,k,by')) (g o n cap j:Nat) (h1:j≤n) (h2:j < cap) (w:World) :
  (Instr.slice ST (.slice (some ⟨g,o * k,none⟩) n cap) (some (.int .i64 j)) none none).run P w=.ok (.slice (some ⟨g,(o+j) * k,none⟩) (n - j) (cap - j)) w:=by
 rw [qM hST dL _ n cap j h1 w,Ef,if_neg (by omega)]
 simp only [Option.map_some,lv,Nat.add_mul]
theorem ab9 {L xs news:List Value} {a b:Nat} (h:(L.drop a).take b=xs) (hb:xs.length=b) (hl:a+b≤L.length):((L.take (a+b)++(news++L.drop (a+b+news.length))).drop a).take (b+news.length)=xs++news:=by
 rw [List.drop_append_of_le_length (by rw [List.length_take];omega),List.drop_take,show a+b - a=b by omega,h,← List.append_assoc,List.take_append_of_le_length (by rw [List.length_append];omega),List.take_of_length_le (by rw [List.length_append];omega)]
theorem acx {P:Program} {T':TypeId} (h:In F0 w0 w R) (i:Nat) (hA:R[i]?=some (abT T k g o n cap xs))
  {ops:Array Oper} {rest:List Oper} {op:Oper} {a:Act} {Q:Exit→Act→World→Prop} (hgd:op.guard=none) (s x:Operand) (ST:TypeId)
  (ho:op.op=.call { callee:=.builtin .append,args:=#[s,x],argTypes:=#[ST,ST] }) {by':Nat} (hST:P.underlying ST=some (.slice T)) (dL:(P.info? T).map (fun i=>(i.zero.map (fun z=>z.cells.size),i.size,i.bytes))=some (some k,k,by'))
  (hk:0 < k) (hby:by'≤1024) (hs:a.eval s=.slice (some ⟨g,o * k,none⟩) n cap) (b:Nat) (us:Array Value) (hx:a.eval x=.slice (some ⟨b,0,none⟩) 1 1) (hg:w.heap[b]?=some (.cells us T' (0,0))) (hus:us.size=k)
  (h1:∀ u∈us.toList,u.oneCell'=true) (hn:n≤1000000000) (hn0:0 < n)
  (hK:∀ g' o' cap' w',In F0 w0 w' (R.set i (abT T k g' o' (n+1) cap' (xs++us.toList)))→wpList P ops Q rest (a.put op.dst (.slice (some ⟨g',o' * k,none⟩) (n+1) cap')) w'):wpList P ops Q (op::rest) a w:=by
 obtain⟨F,hrow⟩:=h.get i hA
 have hcell:=hrow.cell
 obtain⟨hF,hxl,hnc,hcm,cur,acU,hsz,htk⟩:=hrow
 obtain⟨i0,z,j1,j2,jz,j3,j4⟩:∃ i0 z,P.info? T=some i0∧i0.zero=some z∧z.cells.size=k∧i0.size=k∧i0.bytes=by':=by
  cases e:P.info? T with
  | none=>rw [e] at dL;cases dL
  | some i0=>
   rw [e] at dL
   simp only [Option.map_some,Option.some.injEq,Prod.mk.injEq] at dL
   cases hz:i0.zero with
   | none=>rw [hz] at dL;simp at dL
   | some z=>
    rw [hz] at dL
    simp only [Option.map_some,Option.some.injEq] at dL
    exact⟨i0,z,rfl,hz,dL.1,dL.2.1,dL.2.2⟩
 have hul:us.toList.length=k:=by simp [hus]
 have hlt:R.length=R.length:=rfl
 have hi:i < R.length:=(List.getElem?_eq_some_iff.1 hA).1
 refine wpList_append_arg w hgd s x ST ho T i0 z k by' hST j1 j2 j3 j4 jz hk g (o * k) n cap xs hs hxl hcell ⟨b,0,none⟩ 1 1 us.toList hx (by rw [hul,Nat.one_mul]) (fun j u hu=>by rw [lv,Nat.zero_add];exact cell_of hg (by rw [← hu,Array.getElem?_toList])) h1 ?_ (by unfold maxLen;omega) ?_ ?_ ?_
 ·intro hr j hj
  rw [hul] at hj
  have h2:o * k+n * k+j < cur.size:=by
   rw [hsz,Nat.add_mul]
   have:(n+1) * k≤cap * k:=Nat.mul_le_mul_right _ hr
   rw [Nat.add_mul] at this
   omega
  exact⟨by rw [cell_of acU (Array.getElem?_eq_getElem h2)];rfl,aL acU⟩
 ·have:(n+1) * by'≤1000000001 * 1024:=Nat.mul_le_mul (by omega) hby
  omega
 ·intro hr
  refine hK g o cap _ ?_
  have g1:=h.imp (A':=Cells g cur T) i hA (Cells.aA _ _ _) (fun F' hF'=>⟨hF'.1,acU⟩)
  have g2:=In.ku (b:=g) (T:=T) (C:=cur) us.toList (o * k+n * k) i g1 (by simp [hi])
  rw [List.set_set] at g2
  have h2:o * k+n * k+k≤cur.size:=by
   rw [hsz,Nat.add_mul]
   have:(n+1) * k≤cap * k:=Nat.mul_le_mul_right _ hr
   rw [Nat.add_mul] at this
   omega
  have hlen:=sw us.toList (o * k+n * k) cur (by rw [hul];exact h2)
  have g3:=g2.imp (A:=Cells g (setL (o * k+n * k) us.toList cur) T) (A':=abT T k g o (n+1) cap (xs++us.toList)) i (by simp [hi]) (abT.aA _ _ _ _ _ _ _) (fun F' hF'=>⟨hF'.1,by rw [List.length_append,hxl,hul,Nat.add_mul,Nat.one_mul],hr,hcm,_,hF'.2,by
    rw [← Array.length_toList,hlen]
    simp only [List.length_append,List.length_take,List.length_drop,Array.length_toList,hul]
    rw [← hsz];omega,by
    rw [hlen]
    have:=ab9 (news:=us.toList) htk hxl (by rw [Array.length_toList];omega)
    rw [hul] at this
    rw [Nat.add_mul n 1 k,Nat.one_mul,hul]
    exact this⟩)
  rw [List.set_set] at g3
  exact g3
 ·intro hr v' w' r1 r2
  have g1:=h.step i hA (ay.aA T k v' (n+1) (xs++us.toList)) (w':=w') fun F' hF'=>⟨v'.ownBlock.toList,(zw r1).1,fun b hb=>Or.inr ((zw r1).2 b hb),(Mod.refl F' w).zW r2 (fun k hk=>by cases hk)⟩
  obtain⟨g',cap',rfl,g2⟩:=g1.acY (T:=T) (k:=k) (n:=n+1) (xs:=xs++us.toList) (v:=v') i (by simp [hi]) (by omega)
  rw [List.set_set] at g2
  have:=hK g' 0 cap' w' g2
  rwa [Nat.zero_mul] at this
end
/-! ### Moments -/
abbrev Mom:=fP×Value×Value×Value
abbrev acp (m:Mom):List Value:=[.int .i64 m.1.gen,m.2.1,m.2.2.1,m.2.2.2]
def abN (ms:List Mom):List Value:=(ms.map acp).flatten
def abP:List Mom→List az
 | []=>[]
 | m::ms=>gG m.2.1 m.1.ax::zq m.2.2.1 m.1.bN::BI m.2.2.2 m.1.bU::abP ms
theorem abV:∀ (ms ns:List Mom),abP (ms++ns)=abP ms++abP ns
 | [],_=>rfl
 | m::ms,ns=>by show _::_::_::abP (ms++ns)=_;rw [abV ms ns];rfl
theorem ack:∀ {ms:List Mom} {j:Nat} {m:Mom},ms[j]?=some m→(abP ms)[3 * j]?=some (gG m.2.1 m.1.ax)∧(abP ms)[3 * j+1]?=some (zq m.2.2.1 m.1.bN)∧(abP ms)[3 * j+2]?=some (BI m.2.2.2 m.1.bU)
 | [],_,_,h=>by simp at h
 | m::ms,0,x,h=>by simp at h;subst h;exact⟨rfl,rfl,rfl⟩
 | m::ms,j+1,x,h=>by
  simp only [List.getElem?_cons_succ] at h
  have:=ack h
  rw [show 3 * (j+1)=3 * j+3 by omega]
  exact this
theorem acm (ms ns:List Mom):abN (ms++ns)=abN ms++abN ns:=by simp [abN]
theorem aca (ms:List Mom):∀ j,abN (ms.drop j)=(abN ms).drop (j * 4):=by
 induction ms with
 | nil=>intro j;simp [abN]
 | cons m ms ih=>
  intro j
  cases j with
  | zero=>simp
  | succ j=>
   show abN (ms.drop j)=(acp m++abN ms).drop ((j+1) * 4)
   rw [ih j,show (j+1) * 4=4+j * 4 by omega,← List.drop_drop]
   rfl
theorem acy {ms:List Mom} {j:Nat} {m:Mom} (h:ms[j]?=some m) {i:Nat} (hi:i < 4):(abN ms)[j * 4+i]?=(acp m)[i]?:=di (enc:=acp) (k:=4) (fun _=>rfl) h i hi
section
variable {F0:List Nat} {w0 w:World} {R:List az} {g o cap:Nat} {ms:List Mom}
abbrev abQ (g o cap:Nat) (ms:List Mom):List az:=abT 62 4 g o ms.length cap (abN ms)::abP ms
theorem acn:(Tryz.prog.info? 62).map (fun i=>(i.zero.map (fun z=>z.cells.size),i.size,i.bytes))=some (some 4,4,80):=by kernel_rfl
theorem ab0 {X:List az} (h:In F0 w0 w (X++abP ms)) {j:Nat} {m:Mom} (hj:ms[j]?=some m):∃ A a D d F f,m.2=(.slice A m.1.ax.length a,.slice D m.1.bN.length d,.slice F m.1.bU.length f)∧wY F0 w0 (X++abP ms) m.1 A D F:=by
 obtain⟨h1,h2,h3⟩:=ack hj
 have e:∀ i,(X++abP ms)[X.length+i]?=(abP ms)[i]?:=fun i=>by rw [List.getElem?_append_right (by omega)];congr 1;omega
 rw [← e] at h1 h2 h3
 obtain⟨s,bv,dv,fv⟩:=m
 dsimp only at h1 h2 h3
 obtain⟨_,r1⟩:=h.get _ h1
 obtain⟨_,r2⟩:=h.get _ h2
 obtain⟨_,r3⟩:=h.get _ h3
 obtain⟨A,a,rfl,-⟩:=ay.shape r1
 obtain⟨D,d,rfl,-⟩:=ay.shape r2
 obtain⟨F,f,rfl,-⟩:=ay.shape r3
 exact⟨A,a,D,d,F,f,rfl,jA _ _ _ h1 h2 h3⟩
theorem abR {X:List az} (h:In F0 w0 w (X++abQ g o cap ms)) {j:Nat} {m:Mom} (hj:ms[j]?=some m):w.cell? ⟨g,o * 4+j * 4,none⟩=some (.int .i64 m.1.gen)∧w.cell? ⟨g,o * 4+j * 4+1,none⟩=some m.2.1∧w.cell? ⟨g,o * 4+j * 4+2,none⟩=some m.2.2.1∧w.cell? ⟨g,o * 4+j * 4+3,none⟩=some m.2.2.2:=by
 obtain⟨F,r⟩:=h.get (A:=abT 62 4 g o ms.length cap (abN ms)) X.length (by rw [List.getElem?_append_right (Nat.le_refl _),Nat.sub_self];rfl)
 have c:=r.cell
 have e:∀ i u,i < 4→(acp m)[i]?=some u→w.cell? ⟨g,o * 4+j * 4+i,none⟩=some u:=fun i u hi hu=>by
  rw [Nat.add_assoc];exact c (j * 4+i) u (by rw [acy hj hi];exact hu)
 exact⟨e 0 _ (by decide) rfl,e 1 _ (by decide) rfl,e 2 _ (by decide) rfl,e 3 _ (by decide) rfl⟩
theorem acI {X:List az} {m:Mom} (h:In F0 w0 w (X++abQ g o cap (ms++[m]))):In F0 w0 w (X++abQ g (o+ms.length) (cap - ms.length) [m]):=by
 have e1:X++abQ g o cap (ms++[m])=(X++[abT 62 4 g o (ms++[m]).length cap (abN (ms++[m]))])++(abP ms++abP [m]):=by rw [← abV];simp [abQ]
 rw [e1] at h
 have h1:In F0 w0 w ((X++[abT 62 4 g o (ms++[m]).length cap (abN (ms++[m]))])++abP [m]):=by
  have h2:=h.perm (R':=abP ms++((X++[abT 62 4 g o (ms++[m]).length cap (abN (ms++[m]))])++abP [m])) (by rw [← List.append_assoc,← List.append_assoc];exact List.perm_append_comm.append_right _)
  exact h2.right
 have h3:=h1.acM (T:=62) (k:=4) (g:=g) (o:=o) (n:=(ms++[m]).length) (cap:=cap) (xs:=abN (ms++[m])) X.length (by simp) ms.length (by simp)
 have e2:(abN (ms++[m])).drop (ms.length * 4)=abN [m]:=by rw [← aca];simp
 have e3:(ms++[m]).length - ms.length=1:=by simp
 rw [e2,e3] at h3
 have e4:((X++[abT 62 4 g o (ms++[m]).length cap (abN (ms++[m]))])++abP [m]).set X.length (abT 62 4 g (o+ms.length) 1 (cap - ms.length) (abN [m]))=X++abQ g (o+ms.length) (cap - ms.length) [m]:=by
  rw [List.append_assoc,List.set_append_right _ _ (Nat.le_refl _),Nat.sub_self];rfl
 rw [e4] at h3
 exact h3
theorem acz {X:List az} {m:Mom} {g' o' cap':Nat} (h:In F0 w0 w (X++(abT 62 4 g' o' (ms.length+1) cap' (abN ms++acp m)::(abP ms++abP [m])))):In F0 w0 w (X++abQ g' o' cap' (ms++[m])):=by
 have e:abQ g' o' cap' (ms++[m])=abT 62 4 g' o' (ms.length+1) cap' (abN ms++acp m)::(abP ms++abP [m]):=by
  unfold abQ
  rw [abV,acm,List.length_append];rfl
 rw [e];exact h
theorem acJ {X:List az} {m:Mom} {g' o' cap':Nat} (h:In F0 w0 w (abP [m]++(X++(abT 62 4 g' o' (ms.length+1) cap' (abN ms++acp m)::abP ms)))):In F0 w0 w (X++abQ g' o' cap' (ms++[m])):=by
 refine acz (h.perm ?_)
 have e:X++(abT 62 4 g' o' (ms.length+1) cap' (abN ms++acp m)::(abP ms++abP [m]))=(X++(abT 62 4 g' o' (ms.length+1) cap' (abN ms++acp m)::abP ms))++abP [m]:=by simp
 rw [e]
 exact List.perm_append_comm
end
theorem abW {s:fP} (h:fU s):s.ax.length≤1000000∧s.bN.length≤1000000∧s.bU.length≤1000000:=by
 obtain⟨h1,h2,h3⟩:=h.lens
 exact⟨by omega,by omega,by omega⟩
theorem acA {ms:List Mom} {L:List fP} {y:fP} (h:ms.map (·.1)=L++[y]):∃ ns bv dv fv,ms=ns++[(y,bv,dv,fv)]:=by
 obtain⟨a,b,rfl,rfl,h2⟩:=List.map_eq_append_iff.1 h
 obtain⟨x,rfl,h3⟩:=List.map_eq_singleton_iff.1 h2
 obtain⟨x1,x2,x3,x4⟩:=x
 simp only at h3
 subst h3
 exact⟨a,x2,x3,x4,rfl⟩
theorem acN {ms:List Mom} {x:fP} {k:Nat} (h:(ms.map (·.1)++[x]).length≤k+1+1) (hk:k≤60):ms.length≤1000000000:=by
 rw [List.length_append,List.length_map] at h;simp at h;omega
theorem acO {ns:List Mom} {m:Mom} {k:Nat} (h:((ns++[m]).map (·.1)).length≤k+1) (hk:k≤60):ns.length≤1000:=by
 rw [List.length_map,List.length_append] at h;simp at h;omega
theorem acP {ms:List Mom} {k:Nat} (h:(ms.map (·.1)).length≤k+1) (hk:k≤60):ms.length≤100:=by
 rw [List.length_map] at h;omega
theorem acb {ns:List Mom} {m:Mom} {c:Nat} (h:(ns++[m]).length≤c):ns.length < c:=by
 rw [List.length_append] at h;simp at h;omega
theorem acK {k z:Nat} {v:Int} {ms:List Mom} {s:SD} (h:abO k z v (ms.map (·.1)) s):0 < ms.length:=by
 obtain⟨L,hL⟩:=h.last
 have:=congrArg List.length hL
 rw [List.length_map,List.length_append] at this
 simp at this;omega
theorem acd {w:World} {a:Option Addr} {len cap:Nat} {zs:List Int} (h:aak .i64 w a len cap zs) {k:Nat} (hk:k < len):∃ (b o:Nat) (z:Int),a=some ⟨b,o,none⟩∧w.cell? ⟨b,o+k,none⟩=some (.int .i64 z):=by
 have hl:=h.length
 rcases h.at' with h0 | ⟨b,o,e,_,hc⟩
 ·omega
 ·exact⟨b,o,_,e,hc k (by omega)⟩
theorem acB {n:Nat} (h:n≤1000):wrap64 (n:Int)=(n:Int):=by unfold wrap64;omega
section
variable {W:World}
def ab1 (sb lb bd dz z n:Nat) (v:Int) (W:World) (mv i:Value) (wr:World):Prop:=
 ∃ (k:Nat) (s:SD) (ms:List Mom) (g o cp:Nat),k≤n∧i=.int .i64 k∧mv=.slice (some ⟨g,o * 4,none⟩) ms.length cp∧abO k z v (ms.map (·.1)) s∧In [] W wr (oG sb lb bd dz s (abQ g o cp ms))
theorem abS {sb lb bd dz z n k:Nat} {v:Int} {s:SD} {ms:List Mom} {g o cp:Nat} {wr:World} {X:az} (hk:k+1≤n) (hs:abO (k+1) z v (ms.map (·.1)) s) (h:In [] W wr (oG sb lb bd dz s (X::abQ g o cp ms))):ab1 sb lb bd dz z n v W (.slice (some ⟨g,o * 4,none⟩) ms.length cp) (.int .i64 ((k:Int)+1)) wr:=
 ⟨k+1,s,ms,g,o,cp,hk,by rw [Int.natCast_add];rfl,rfl,hs,h.aI (R1:=[_,_,_,_,_]) (R2:=abQ g o cp ms) [0,1,2,3] (by decide) rfl⟩
def aco (j0:Nat) (L:List az) (W:World) (i:Value) (wr:World):Prop:=∃ j:Nat,j≤j0∧i=.int .i64 j∧In [] W wr L
theorem abU (W:World) (version:Int) (wv:(Lit.int .i64 version).wf=true) (size:Int) (wsz:(Lit.int .i64 size).wf=true) {v:Value} {cs:List oL} (hv:nM W v cs) {a2 a3:Option Addr} {aaT cap2 acV Lv:Nat} {zs:List Int} {p:List UInt8} (h2:aak .i64 W a2 aaT cap2 zs) (h3:AB W (.slice a3 acV Lv) p) :
  Calls Tryz.prog 8 #[.int .i64 version,.int .i64 size,v,.slice a2 aaT cap2,.slice a3 acV Lv] W (SL W):=by
 have Wi:=Lib.hid (fun w' (R:List az) (h':In [] W w' R)=>acj h')
 have KLI:=Lib.hid (acF (Own.nil W) hv)
 obtain⟨a,cap,rfl,hc1,hc2,hcn,hc⟩:=hv.ex
 obtain⟨a3',c3',e3,hs3,hr3,hm3⟩:=h3.ex
 cases e3
 have hl2:=h2.length
 have hm2:=h2.most
 have hr2:=h2.room
 unfold maxLen at hc2 hm2
 have HC:=Lib.hid hc
 have H2:=Lib.hid h2
 have H3:=Lib.hid (And.intro hs3 (And.intro hr3 hm3))
 have TC:=Lib.hid (SN version)
 clear hv wv wsz hcn hc h2 h3 hs3 hm3
 go_enter Tryz.func8,Tryz.ntmps8
 go_wp2_with fail
 refine KLI.out.mono ?_
 rintro e w1 ⟨bs,rfl,hli,g1⟩
 cases bs with
 | false=>
  have K:=Lib.hid (Wi.out w1 [] g1)
  clear g1 KLI Wi hli
  go_wp2_with fail
  refine K.out.mono ?_
  rintro e w2 ⟨rfl,g⟩
  have G:=Lib.hid g.mod
  clear g K
  go_wp2_with fail
  go_ret
  exact⟨rfl,G.out⟩
 | true=>
  have HLI:=Lib.hid (hli rfl)
  have KN:=Lib.hid (QZ g1 300000 (by omega) (by omega))
  clear g1 KLI hli
  go_wp2_with fail
  refine KN.out.mono ?_
  rintro e w2 ⟨bd,rfl,g2⟩
  generalize wrap64 (1+wrap64 ((IntKind.u64.wrap version).tmod 3))=z at *
  generalize wrap64 ((IntKind.u64.wrap size).tmod 500)=abL at *
  obtain⟨s0,hc0,hst,hz1⟩:=abO.start TC.out abL
  have C1:=o_socreate g2 (by decide) z abL
  rw [hc0] at C1
  have C1':=Lib.hid C1
  have HST:=Lib.hid hst
  clear g2 hc0 hst KN C1 hz1
  go_wp2_with fail
  refine C1'.out.mono ?_
  intro e w3 hp
  obtain⟨sb,lb,dz,rfl,g3⟩:=hp.some rfl
  clear hp C1'
  have g4:=(((g3.dG 67 8).dG 166 2).dG 160 3).cells #[.int .i64 0,.slice none 0 0,.slice none 0 0,.slice none 0 0] 62
  have g5:=g4.Vd 0 (n:=1) (k:=4) rfl (by rfl) (by decide)
  obtain⟨abH,cq,eq,g6⟩:=g5.acY 0 rfl (by decide)
  cases eq
  have g7:In [] W (w3.alloc (.cells #[.int .i64 0,.slice none 0 0,.slice none 0 0,.slice none 0 0] 62)) (oG sb lb bd dz (s0.1,s0.2) (abQ w3.heap.size 0 1 [(aJ,.slice none 0 0,.slice none 0 0,.slice none 0 0)])):=g6.aI (R1:=[_,_,_,_,_,_,_,_]) (R2:=[]) [4,5,6,7,0,1,2,3] (by decide) rfl
  have HR:Hid (ab1 sb lb bd dz (sized abL) cs.length z W (.slice (some ⟨w3.heap.size,0,none⟩) 1 1) (.int .i64 0) (w3.alloc (.cells #[.int .i64 0,.slice none 0 0,.slice none 0 0,.slice none 0 0] 62))):=Lib.hid ⟨0,s0,[(aJ,.slice none 0 0,.slice none 0 0,.slice none 0 0)],_,0,1,Nat.zero_le _,rfl,rfl,HST.out,g7⟩
  clear g3 g4 g5 g6 g7 HST
  go_wp2_with fail
  go_loopw [14,53] (ab1 sb lb bd dz (sized abL) cs.length z W) (fun _ i _=>cs.length - (intOf i).toNat)
  case atStart=>exact HR.out
  case round=>
   obtain⟨k,s,ms,g0,o0,cp0,hk,rfl,rfl,hst,ho⟩:=hrel
   clear HR
   by_cases hlt:k < cs.length
   ·obtain⟨x,hx⟩:∃ x,cs[k]?=some x:=⟨cs[k],List.getElem?_eq_getElem hlt⟩
    obtain⟨g,o,csx,rfl,hcr,hcell⟩:=HC.out k x hx
    obtain⟨ab,cb,ar,cr,ap,cp,rfl,hsrc,hnn,hbl,hwf,hvr,_,hrl⟩:=Ug hcr
    have hlt':(k:Int) < (cs.length:Int):=Int.ofNat_lt.2 hlt
    have hlen:=HLI.out.len
    have hlc:=HLI.out.each x (List.mem_of_getElem? hx)
    have hw2:wrap64 ((k:Int)+1)=(k:Int)+1:=by unfold wrap64;omega
    have HRG:=Lib.hid (Nk ho hcell)
    obtain⟨hth,h4⟩:=PO ho x ab cb ar cr ap cp
    have HTH:=Lib.hid hth
    obtain⟨w4,hw4⟩:∃ w4,w4=(wr.alloc (.cells GQ 72)).setCells wr.heap.size 0 (rT x ab cb ar cr ap cp).toArray.toList:=⟨_,rfl⟩
    rw [← hw4] at h4
    have h5:=h4.aI (R1:=[_,_,_,_,_]) (R2:=abQ g0 o0 cp0 ms) [1,2,3,4,0] (by decide) rfl
    have H5:Hid (In [] W w4 (oG sb lb bd dz s (Cells wr.heap.size (rT x ab cb ar cr ap cp).toArray 72::abQ g0 o0 cp0 ms))):=Lib.hid h5
    have HW4:=Lib.hid hw4
    have HST:=Lib.hid hst
    have HM:=Lib.hid (dV hlt')
    have HK:Hid (k+1≤cs.length):=Lib.hid hlt
    have Qp:=Lib.hid hsrc
    have HNN:=Lib.hid hnn
    have Vm:=Lib.hid hwf
    have Gr:=Lib.hid hlc.b
    have hkm:k≤60:=Nat.le_trans (Nat.le_of_lt hlt) hlen
    have HKM:=Lib.hid hkm
    have hops:s.1.ops≤5000:=hst.acT hkm
    have OA:=Lib.hid hops
    have HKF:=Lib.hid (fun abK=>acG h5 2 rfl (Nat.le_trans hops (by decide)) abK)
    have HZ:Hid (k < aaT→∃ (abF abJ:Nat) (abK:Int),a2=some ⟨abF,abJ,none⟩∧w4.cell? ⟨abF,abJ+k,none⟩=some (.int .i64 abK)):=Lib.hid fun f1=>by
     obtain⟨abF,abJ,abK,e,c⟩:=acd H2.out f1
     exact⟨abF,abJ,abK,e,GN h5 c⟩
    clear ho h4 h5 hvr hx hlt hcell hcr hw4 hth hsrc hnn hwf hlc hlen hst hbl hrl hk hops hkm
    go_upto_region 11 with fail
    go_cut [15,16] (fun x1 x2 wx=>x1=.int .i64 k∧x2=.pointer (some ⟨wr.heap.size,0,none⟩)∧wx=w4)
    case first=>
     go_wp2_with (first | (refine wpList_load_mid (by rfl) 72 (.tmp 56) rfl g (o+k * 18) rfl (rT x ab cb ar cr ap cp) _ HRG.out Tryz.underlying72 rfl (by kernel_rfl) ?_) | (refine wpList_store_mid (by rfl) 72 (.tmp 16) (.tmp 57) rfl wr.heap.size 0 (rT x ab cb ar cr ap cp).toArray (by rfl) (by rfl) HTH.out (by kernel_rfl) Ni ?_))
     go_meet
     exact⟨rfl,rfl,HW4.out.symm⟩
    case rest=>
    obtain⟨rfl,rfl,rfl⟩:=hcut
    clear HRG HTH HW4
    rename_i ha
    refine ha _ _ ?_
    clear ha
    go_step
    go_cut [15] (fun x1 wx=>x1=.int .i64 k∧∃ d',abO k (sized abL) z (ms.map (·.1)) (d',s.2)∧In [] W wx (oG sb lb bd dz (d',s.2) (Cells wr.heap.size (rT x ab cb ar cr ap cp).toArray 72::abQ g0 o0 cp0 ms)))
    case first=>
     clear Qp HNN Vm Gr
     by_cases f1:k < aaT
     ·obtain⟨abF,abJ,abK,rfl,abG⟩:=HZ.out f1
      have f1':(k:Int) < (aaT:Int):=Int.ofNat_lt.2 f1
      have KF:=Lib.hid (HKF.out abK)
      clear HKF HZ f1
      by_cases f2:0 < abK
      ·by_cases f3:abK < 9
       ·go_wp2_with fail
        refine KF.out.mono ?_
        rintro e w4 ⟨rfl,g4⟩
        have G4:=Lib.hid g4
        clear g4 KF
        go_wp2_with fail
        go_meet
        exact⟨rfl,_,HST.out.fail abK,G4.out⟩
       ·have f3':decide (abK < 9)=false:=decide_eq_false f3
        clear KF f3
        go_wp2_with fail
        go_meet
        exact⟨rfl,_,HST.out,H5.out⟩
      ·have f2':decide (0 < abK)=false:=decide_eq_false f2
       clear KF f2
       go_wp2_with fail
       go_meet
       exact⟨rfl,_,HST.out,H5.out⟩
     ·have f1':decide ((k:Int) < (aaT:Int))=false:=decide_eq_false (fun e=>f1 (Int.ofNat_lt.1 e))
      have f1n:decide (k < aaT)=false:=decide_eq_false f1
      clear HZ HKF
      go_wp2_with fail
      go_meet
      exact⟨rfl,_,HST.out,H5.out⟩
    case rest=>
    obtain⟨rfl,d',hst',ho'⟩:=hcut
    clear HST H5 HKF HZ
    have c0:wc.cell? ⟨wr.heap.size,0,none⟩=some (.int .i64 x.act):=cell_of (ho'.block 4 rfl) acC
    have WO:=Lib.hid (JH (ho'.block 4 rfl))
    have HST:=Lib.hid hst'
    have HO:=Lib.hid ho'
    have HLG:=Lib.hid (hst'.VI (Cf abL))
    obtain⟨s',hs'⟩:∃ s':SD,s'=(d',s.2):=⟨_,rfl⟩
    rw [← hs'] at HST HO
    have HLG:Hid (gH s'.2.l):=Lib.hid (by rw [hs'];exact HLG.out)
    have OA:Hid (s'.1.ops≤5000):=Lib.hid (HST.out.acT HKM.out)
    clear hst' ho' hs' hr3 hl2 hm2 hr2
    generalize wr.heap.size=fb at *
    by_cases q0:x.act=0
    ·have KW:=Lib.hid (uq (r:=x.r) (A:=ab) (c:=cb) HLG.out (Nat.le_trans OA.out (by decide)) (fun w' h'=>Qp.out.old h') HNN.out (Nat.le_trans Gr.out (by decide)) Vm.out.rr HO.out)
     have HAP:=Lib.hid (HST.out.write Vm.out.rr)
     have q0':(x.act == 0)=true:=by rw [q0];rfl
     obtain⟨s2,hs2⟩:∃ s2,s2=(bG x.r s').1:=⟨_,rfl⟩
     obtain⟨er,her⟩:∃ er,er=(bG x.r s').2:=⟨_,rfl⟩
     rw [← hs2,← her] at KW HAP
     have HPO:Hid (0 < ms.length):=Lib.hid (acK HST.out)
     clear HST HO q0 hs2 her HLG OA
     rcases HAP.out with ⟨e0,st⟩|⟨e0,st⟩
     ·have HS:=Lib.hid st
      subst e0
      clear st HAP
      go_wp2_with (refine wpList_load_mid (by rfl) 69 (.tmp 87) rfl fb 2 rfl (Nh x.r ab cb) _ WO.out Tryz.underlying69 rfl (by kernel_rfl) ?_)
      refine KW.out.mono ?_
      rintro e w5 ⟨rfl,g5⟩
      have KS:=Lib.hid (jT g5)
      have KV:=Lib.hid (ig (g5.aI (R1:=[_,_,_,_,_]) (R2:=abQ g0 o0 cp0 ms) [3,0,1,2,4] (by decide) rfl))
      clear g5 KW WO c0
      go_wp2_with fail
      refine KS.out.mono ?_
      rintro e w6 ⟨rfl,rfl⟩
      go_wp2_with fail
      refine KV.out.mono ?_
      rintro e w7 ⟨A1,a1,D1,d1,F1,f1,rfl,g7⟩
      have g8:=g7.cells #[.int .i64 s2.2.st.gen,.slice A1 s2.2.st.ax.length a1,.slice D1 s2.2.st.bN.length d1,.slice F1 s2.2.st.bU.length f1] 62
      have G8:=Lib.hid g8
      have C8:=Lib.hid (g8.block 0 rfl)
      have aav:ms.length≤1000000000:=acN HS.out.few HKM.out
      have HFE:=Lib.hid aav
      clear g7 g8 KS KV aav
      go_wp2_with (at_builtin;refine acx G8.out 9 rfl rfl (.tmp 91) (.tmp 95) 84 (by rfl) Tryz.underlying84 acn (by decide) (by decide) (by rfl) w7.heap.size #[.int .i64 s2.2.st.gen,.slice A1 s2.2.st.ax.length a1,.slice D1 s2.2.st.bN.length d1,.slice F1 s2.2.st.bU.length f1] (by rfl) C8.out rfl (acv _ _ _ _ _ _ _ _ _ _) HFE.out HPO.out ?_)
      intro g' o' cap' w8 ho8
      have g9:=acJ (m:=(s2.2.st,.slice A1 s2.2.st.ax.length a1,.slice D1 s2.2.st.bN.length d1,.slice F1 s2.2.st.bU.length f1)) (X:=[_,_,_,_,_]) (ms:=ms) (g':=g') (o':=o') (cap':=cap') (ho8.aI (R1:=[_,_,_,_,_,_,_,_,_,_]) (R2:=abP ms) [1,2,3,5,6,7,4,8,9] (by decide) rfl)
      have HR:Hid (ab1 sb lb bd dz (sized abL) cs.length z W (.slice (some ⟨g',o' * 4,none⟩) (ms.length+1) cap') (.int .i64 ((k:Int)+1)) w8):=Lib.hid (by
       have:=abS HK.out (by rw [List.map_append];exact HS.out) g9
       rw [List.length_append] at this
       exact this)
      clear ho8 g9 G8 C8 HS HFE HPO
      go_wp2_with fail
      go_roundw
      case rel=>(try rw [hw2]);exact HR.out
      case measure=>(try rw [hw2]);exact HM.out
     ·have HR:Hid (∀ w',In [] W w' (oG sb lb bd dz s2 (Cells fb (rT x ab cb ar cr ap cp).toArray 72::abQ g0 o0 cp0 ms))→ab1 sb lb bd dz (sized abL) cs.length z W (.slice (some ⟨g0,o0 * 4,none⟩) ms.length cp0) (.int .i64 ((k:Int)+1)) w'):=Lib.hid fun w' h'=>abS HK.out st h'
      have qe:(er == 0)=false:=beq_eq_false_iff_ne.2 e0
      clear st HAP e0
      go_wp2_with (refine wpList_load_mid (by rfl) 69 (.tmp 87) rfl fb 2 rfl (Nh x.r ab cb) _ WO.out Tryz.underlying69 rfl (by kernel_rfl) ?_)
      refine KW.out.mono ?_
      rintro e w5 ⟨rfl,g5⟩
      have HR2:=Lib.hid (HR.out w5 g5)
      clear g5 KW WO c0 HR
      go_wp2_with fail
      go_roundw
      case rel=>(try rw [hw2]);exact HR2.out
      case measure=>(try rw [hw2]);exact HM.out
    have q0':(x.act == 0)=false:=beq_eq_false_iff_ne.2 q0
    by_cases q1:x.act=1
    ·have KW:=Lib.hid (Sz HLG.out (Nat.le_trans OA.out (by decide)) HO.out)
     have q1':(x.act == 1)=true:=by rw [q1];rfl
     have HAP:=Lib.hid HST.out.sync
     obtain⟨L0,hL0⟩:=HST.out.last
     obtain⟨ns,bv,dv,fv,rfl⟩:=acA hL0
     have mD:=Lib.hid HST.out.ok.1
     obtain⟨A1,a1,D1,d1,F1,f1,e9,hsv⟩:=ab0 (X:=[_,_,_,_,_,_]) HO.out (j:=ns.length) (m:=(s'.2.st,bv,dv,fv)) (by simp)
     simp only at e9 hsv
     obtain⟨rfl,e10⟩:=Prod.mk.inj e9
     obtain⟨rfl,rfl⟩:=Prod.mk.inj e10
     obtain⟨y,hy⟩:∃ y,y=s'.2.st:=⟨_,rfl⟩
     obtain⟨s2,hs2⟩:∃ s2,s2=(iN s').1:=⟨_,rfl⟩
     obtain⟨er,her⟩:∃ er,er=(iN s').2:=⟨_,rfl⟩
     rw [← hs2,← her,← hy] at HAP
     rw [← hs2,← her,← hy] at KW
     rw [← hy] at mD
     have hnf:ns.length≤1000:=acO HST.out.few HKM.out
     have hsub:=acB hnf
     have hle:(ns++[(y,Value.slice A1 y.ax.length a1,Value.slice D1 y.bN.length d1,Value.slice F1 y.bU.length f1)]).length=ns.length+1:=by simp
     have hcp:ns.length < cp0:=by
      obtain⟨_,r⟩:=HO.out.get 5 rfl
      exact acb r.2.2.1
     obtain⟨o1,ho1⟩:∃ o1,o1=o0+ns.length:=⟨_,rfl⟩
     have hcut:∀ wx,(Instr.slice 84 (.slice (some ⟨g0,o0 * 4,none⟩) (ns.length+1) cp0) (some (.int .i64 ns.length)) none none).run Tryz.prog wx=.ok (.slice (some ⟨g0,o1 * 4,none⟩) 1 (cp0 - ns.length)) wx:=fun wx=>by
      have:=acH (P:=Tryz.prog) (T:=62) (k:=4) Tryz.underlying84 acn g0 o0 (ns.length+1) cp0 ns.length (Nat.le_succ _) hcp wx
      rw [Nat.add_sub_cancel_left,← ho1] at this
      exact this
     have acW:Hid (∀ w',In [] W w' (oG sb lb bd dz s2 (Cells fb (rT x ab cb ar cr ap cp).toArray 72::abQ g0 o0 cp0 (ns++[(y,Value.slice A1 y.ax.length a1,Value.slice D1 y.bN.length d1,Value.slice F1 y.bU.length f1)])))→In [] W w' (oG sb lb bd dz s2 (Cells fb (rT x ab cb ar cr ap cp).toArray 72::abQ g0 o1 (cp0 - ns.length) [(y,Value.slice A1 y.ax.length a1,Value.slice D1 y.bN.length d1,Value.slice F1 y.bU.length f1)]))):=Lib.hid fun w' h'=>by
      rw [ho1];exact acI (X:=[_,_,_,_,_]) h'
     rw [← hy]
     clear HST HO q1 hs2 her HLG OA hL0 e9 e10 hsv ho1 hy Vm Qp HNN Gr WO hcp hnf
     rw [hle]
     rcases HAP.out with ⟨ey,⟨e0,esu,st⟩|⟨e0,st⟩⟩
     ·have HS:=Lib.hid st
      have HSU:=Lib.hid esu
      subst e0
      clear st HAP ey esu hle
      go_wp2_with fail
      refine KW.out.mono ?_
      rintro e w5 ⟨rfl,g5⟩
      have g6:=acW.out w5 g5
      have hz0:_∧_:=abR (X:=[_,_,_,_,_]) (g6.drewN 1) (j:=0) rfl
      simp only [Nat.zero_mul,Nat.add_zero,Nat.zero_add] at hz0
      have K8:=Lib.hid (Sy HS.out.ok.2 (g6.drewN 1))
      have Qm:=Lib.hid g6
      clear g5 g6 KW acW
      go_wp2_with fail
      go_region_held3 (fun w'=>w'.cell? ⟨g0,o1 * 4,none⟩=some (.int .i64 y.gen)∧w'.cell? ⟨g0,o1 * 4+1,none⟩=some (.slice A1 y.ax.length a1)∧w'.cell? ⟨g0,o1 * 4+2,none⟩=some (.slice D1 y.bN.length d1)∧w'.cell? ⟨g0,o1 * 4+3,none⟩=some (.slice F1 y.bU.length f1)) (first | exact hz2 | exact hz1 | exact hz0) (first
       | (go_at_call 36;refine K8.out.mono ?_;rintro e w8 ⟨A8,a8,D8,d8,F8,f8,rfl,g8⟩;have hz1:_∧_:=abR (X:=[_,_,_,_,_,_,_,_]) g8 (j:=0) rfl;simp only [Nat.zero_mul,Nat.add_zero,Nat.zero_add] at hz1;have K9:=Lib.hid (mX (a1:=a8) (e1:=d8) (h1:=f8) (s2:=y) (a2:=a1) (e2:=d1) (h2:=f1) (jA 0 1 2 rfl rfl rfl) (jA 9 10 11 rfl rfl rfl) (abW HS.out.ok.2).1 (abW HS.out.ok.2).2.1 (abW HS.out.ok.2).2.2 g8);clear g8)
       | (go_at_call 35;refine K9.out.mono ?_;rintro e w9 ⟨rfl,g9⟩;rw [show decide (s2.2.sure=y)=true from decide_eq_true HSU.out];have hz2:_∧_:=abR (X:=[_,_,_,_,_,_,_,_]) g9 (j:=0) rfl;simp only [Nat.zero_mul,Nat.add_zero,Nat.zero_add] at hz2;have G9:=Lib.hid g9;clear g9))
      have HR:Hid (ab1 sb lb bd dz (sized abL) cs.length z W (.slice (some ⟨g0,o1 * 4,none⟩) 1 (cp0 - ns.length)) (.int .i64 ((k:Int)+1)) w9):=Lib.hid (abS (ms:=[(y,Value.slice A1 y.ax.length a1,Value.slice D1 y.bN.length d1,Value.slice F1 y.bU.length f1)]) HK.out HS.out (G9.out.aI (R1:=[_,_,_,_,_,_,_,_,_,_,_,_]) (R2:=[]) [3,4,5,6,7,8,9,10,11] (by decide) rfl))
      clear G9 hz0 hz1 hz2 K8 K9 Qm
      go_wp2_with fail
      go_roundw
      case rel=>(try rw [hw2]);exact HR.out
      case measure=>(try rw [hw2]);exact HM.out
     ·have HR:Hid (∀ w',In [] W w' (oG sb lb bd dz s2 (Cells fb (rT x ab cb ar cr ap cp).toArray 72::abQ g0 o0 cp0 (ns++[(y,Value.slice A1 y.ax.length a1,Value.slice D1 y.bN.length d1,Value.slice F1 y.bU.length f1)])))→ab1 sb lb bd dz (sized abL) cs.length z W (.slice (some ⟨g0,o0 * 4,none⟩) (ns.length+1) cp0) (.int .i64 ((k:Int)+1)) w'):=Lib.hid fun w' h'=>by
       have:=abS HK.out st h'
       rw [hle] at this
       exact this
      have qe:(er == 0)=false:=beq_eq_false_iff_ne.2 e0
      clear st HAP e0 ey acW hcut hle hsub
      go_wp2_with fail
      refine KW.out.mono ?_
      rintro e w5 ⟨rfl,g5⟩
      have HR2:=Lib.hid (HR.out w5 g5)
      clear g5 KW HR
      go_wp2_with fail
      go_roundw
      case rel=>(try rw [hw2]);exact HR2.out
      case measure=>(try rw [hw2]);exact HM.out
    have q1':(x.act == 1)=false:=beq_eq_false_iff_ne.2 q1
    have HR2:Hid (ab1 sb lb bd dz (sized abL) cs.length z W (.slice (some ⟨g0,o0 * 4,none⟩) ms.length cp0) (.int .i64 ((k:Int)+1)) wc):=Lib.hid (abS HK.out HST.out.more HO.out)
    clear HST HO q0 q1 HLG OA Vm Qp HNN Gr WO
    go_wp2_with fail
    go_roundw
    case rel=>(try rw [hw2]);exact HR2.out
    case measure=>(try rw [hw2]);exact HM.out
   ·have hge:(cs.length:Int)≤(k:Int):=Int.ofNat_le.2 (Nat.le_of_not_lt hlt)
    have hops:s.1.ops≤5000:=hst.acT (Nat.le_trans hk HLI.out.len)
    have KC:=Lib.hid (Fq ho 2 rfl (Nat.le_trans hops (by decide)) H3.out.1 H3.out.2.1 H3.out.2.2)
    obtain⟨j0,t,d',l',hj0,hop,hvl⟩:=hst.uC TC.out abL p
    rw [List.getElem?_map] at hj0
    obtain⟨m0,hm0,hmt⟩:=Option.map_eq_some_iff.1 hj0
    have mD:Hid (fU t):=Lib.hid (hst.oks t (List.mem_of_getElem? (by rw [List.getElem?_map];exact hj0)))
    have HAL:Hid (∀ m∈ms,fU m.1):=Lib.hid (fun m hm=>hst.oks _ (List.mem_map_of_mem hm))
    have HM0:=Lib.hid (And.intro hm0 hmt)
    have HVL:=Lib.hid hvl
    have acZ:=Lib.hid hop
    have ac0:=Lib.hid hops
    have hjl:j0 < ms.length:=(List.getElem?_eq_some_iff.1 hm0).1
    have HJL:=Lib.hid hjl
    have ac4:ms.length≤100:=acP hst.few (Nat.le_trans hk HLI.out.len)
    clear ho hst hj0 hop hvl hm0 hmt hops hjl hlt hk hr3 hl2 hm2 hr2
    go_wp2_with fail
    refine KC.out.mono ?_
    rintro e w4 ⟨rfl,g4⟩
    have g5:In [] W w4 (bJ bd (iw s.1 p)::abQ g0 o0 cp0 ms):=g4.aI (R1:=[_,_,_,_]) (R2:=abQ g0 o0 cp0 ms) [2] (by decide) rfl
    have KO:=o_soopen g5 (Nat.le_trans ac0.out (by decide)) 3 abL
    rw [acZ.out] at KO
    have WV:=Lib.hid KO
    clear g4 g5 KC KO acZ ac0
    go_wp2_with fail
    refine WV.out.mono ?_
    intro e w5 hp
    obtain⟨sb5,lb5,aah,rfl,g6⟩:=hp.some rfl
    have K6:=Lib.hid (jT g6)
    have K7:=Lib.hid (ig (g6.aI (R1:=[_,_,_,_]) (R2:=abQ g0 o0 cp0 ms) [3,0,1,2] (by decide) rfl))
    clear g6 hp WV
    go_wp2_with fail
    refine K6.out.mono ?_
    rintro e w7 ⟨rfl,rfl⟩
    go_wp2_with fail
    refine K7.out.mono ?_
    rintro e w8 ⟨A4,a4,D4,d4,F4,f4,rfl,g8⟩
    obtain⟨ob,YO⟩:∃ ob,ob=w8.heap.size:=⟨_,rfl⟩
    obtain⟨w9,YP⟩:∃ w9,w9=w8.alloc (.cells #[.int .i64 t.gen,.slice A4 t.ax.length a4,.slice D4 t.bN.length d4,.slice F4 t.bU.length f4] 62):=⟨_,rfl⟩
    have g10:In [] W w9 (oG sb5 lb5 bd aah (d',(⟨l',t,t⟩:pK)) (Cells ob #[.int .i64 t.gen,.slice A4 t.ax.length a4,.slice D4 t.bN.length d4,.slice F4 t.bU.length f4] 62::gG (.slice A4 t.ax.length a4) t.ax::zq (.slice D4 t.bN.length d4) t.bN::BI (.slice F4 t.bU.length f4) t.bU::abQ g0 o0 cp0 ms)):=by
     rw [YO,YP]
     exact (g8.cells #[.int .i64 t.gen,.slice A4 t.ax.length a4,.slice D4 t.bN.length d4,.slice F4 t.bU.length f4] 62).aI (R1:=[_,_,_,_,_,_,_,_]) (R2:=abQ g0 o0 cp0 ms) [5,6,7,4,0,1,2,3] (by decide) rfl
    have Zd:=Lib.hid YO
    have Ze:=Lib.hid YP
    have HR:Hid (aco j0 (oG sb5 lb5 bd aah (d',(⟨l',t,t⟩:pK)) (Cells ob #[.int .i64 t.gen,.slice A4 t.ax.length a4,.slice D4 t.bN.length d4,.slice F4 t.bU.length f4] 62::gG (.slice A4 t.ax.length a4) t.ax::zq (.slice D4 t.bN.length d4) t.bN::BI (.slice F4 t.bU.length f4) t.bU::abQ g0 o0 cp0 ms)) W (.int .i64 0) w9):=Lib.hid ⟨0,Nat.zero_le _,rfl,g10⟩
    clear g8 g10 K6 K7 YO YP
    go_wp2_with fail
    rw [← Zd.out,← Ze.out]
    clear Zd Ze
    go_wp2_with fail
    go_loopw [135] (aco j0 (oG sb5 lb5 bd aah (d',(⟨l',t,t⟩:pK)) (Cells ob #[.int .i64 t.gen,.slice A4 t.ax.length a4,.slice D4 t.bN.length d4,.slice F4 t.bU.length f4] 62::gG (.slice A4 t.ax.length a4) t.ax::zq (.slice D4 t.bN.length d4) t.bN::BI (.slice F4 t.bU.length f4) t.bU::abQ g0 o0 cp0 ms)) W) (fun i _=>ms.length - (intOf i).toNat)
    case atStart=>exact HR.out
    case round=>
     obtain⟨j,hj,rfl,ho⟩:=hrel
     clear HR
     have hjl:j < ms.length:=Nat.lt_of_le_of_lt hj HJL.out
     have abd:(j:Int) < (ms.length:Int):=Int.ofNat_lt.2 hjl
     have hw2:wrap64 ((j:Int)+1)=(j:Int)+1:=by unfold wrap64;omega
     obtain⟨m,hm⟩:∃ m,ms[j]?=some m:=⟨ms[j],List.getElem?_eq_getElem hjl⟩
     obtain⟨A1,a1,D1,d1,F1,f1,e9,hsv⟩:=ab0 (X:=[_,_,_,_,_,_,_,_,_]) ho hm
     have hz:=abR (X:=[_,_,_,_,_,_,_,_]) ho hm
     have hmo:=HAL.out m (List.mem_of_getElem? hm)
     obtain⟨y,bv,dv,fv⟩:=m
     simp only at e9 hsv hz hmo
     obtain⟨rfl,e10⟩:=Prod.mk.inj e9
     obtain⟨rfl,rfl⟩:=Prod.mk.inj e10
     obtain⟨z0,z1,z2,z3⟩:=hz
     have HY:Hid (decide (y=t)=false→j < j0):=Lib.hid fun h=>by
      rcases Nat.lt_or_ge j j0 with h1 | h1
      ·exact h1
      ·obtain rfl:j=j0:=by omega
       rw [HM0.out.1] at hm
       injection hm with hm
       have:=HM0.out.2
       rw [hm] at this
       exact absurd this (of_decide_eq_false h)
     obtain⟨w4,hw4⟩:∃ w4,w4=wr.alloc (.cells #[.int .i64 y.gen,.slice A1 y.ax.length a1,.slice D1 y.bN.length d1,.slice F1 y.bU.length f1] 62):=⟨_,rfl⟩
     have h4:=ho.cells #[.int .i64 y.gen,.slice A1 y.ax.length a1,.slice D1 y.bN.length d1,.slice F1 y.bU.length f1] 62
     obtain⟨t0,t1,t2,t3⟩:=fJ (h4.block 5 rfl)
     rw [← hw4] at h4
     have K9:=Lib.hid (mX (s1:=y) (a1:=a1) (e1:=d1) (h1:=f1) (s2:=t) (a2:=a4) (e2:=d4) (h2:=f4) (hsv.more _) (jA 6 7 8 rfl rfl rfl) (abW hmo).1 (abW hmo).2.1 (abW hmo).2.2 h4)
     have HW4:=Lib.hid hw4
     have HM:=Lib.hid (dV abd)
     clear h4 ho hsv e9 e10 hmo hm hw4 hj hjl
     go_wp2_with fail
     rw [← HW4.out]
     refine K9.out.mono ?_
     rintro e w5 ⟨rfl,g5⟩
     clear K9 HW4 t0 t1 t2 t3 z0 z1 z2 z3
     cases hd:decide (y=t) with
     | false=>
      have HR:Hid (aco j0 (oG sb5 lb5 bd aah (d',(⟨l',t,t⟩:pK)) (Cells ob #[.int .i64 t.gen,.slice A4 t.ax.length a4,.slice D4 t.bN.length d4,.slice F4 t.bU.length f4] 62::gG (.slice A4 t.ax.length a4) t.ax::zq (.slice D4 t.bN.length d4) t.bN::BI (.slice F4 t.bU.length f4) t.bU::abQ g0 o0 cp0 ms)) W (.int .i64 ((j:Int)+1)) w5):=Lib.hid ⟨j+1,HY.out hd,by rw [Int.natCast_add];rfl,g5.drop⟩
      clear g5 hd HY
      go_wp2_with fail
      go_roundw
      case rel=>(try rw [hw2]);exact HR.out
      case measure=>(try rw [hw2]);exact HM.out
     | true=>
      have g6:=g5.drop
      have hz0:=fJ ((g6.drewN 1).block 4 rfl)
      have K8:=Lib.hid (Sy (v:=t) mD.out (g6.drewN 1))
      have qz:(z == z)=true:=beq_self_eq_true z
      clear g5 g6 hd HY
      go_wp2_with fail
      go_region_held3 (fun w'=>w'.cell? ⟨ob,0,none⟩=some (.int .i64 t.gen)∧w'.cell? ⟨ob,1,none⟩=some (.slice A4 t.ax.length a4)∧w'.cell? ⟨ob,2,none⟩=some (.slice D4 t.bN.length d4)∧w'.cell? ⟨ob,3,none⟩=some (.slice F4 t.bU.length f4)) (first | exact hz3 | exact hz2 | exact hz1 | exact hz0) (first
       | (go_at_call 36;refine K8.out.mono ?_;rintro e w8 ⟨A8,a8,D8,d8,F8,f8,rfl,g8⟩;have hz1:=fJ (g8.block 7 rfl);have K9:=Lib.hid (mX (s1:=t) (s2:=t) (a1:=a8) (e1:=d8) (h1:=f8) (a2:=a4) (e2:=d4) (h2:=f4) (jA 0 1 2 rfl rfl rfl) (jA 8 9 10 rfl rfl rfl) (abW mD.out).1 (abW mD.out).2.1 (abW mD.out).2.2 g8);clear g8)
       | (go_at_call 35;refine K9.out.mono ?_;rintro e w9 ⟨rfl,g9⟩;simp only [decide_true];have hz2:=fJ (g9.block 7 rfl);have TK:=Lib.hid (sZ g9.drop.drop.drop);have TD:=Lib.hid (Wi.out w9 _ g9);clear g9)
       | (go_at_call 42;refine TK.out.mono ?_;rintro e Co ⟨rfl,rfl⟩;rw [HVL.out])
       | (go_at_call 29;refine TD.out.mono ?_;rintro e Wj ⟨rfl,g15⟩;have hz3:=fJ (g15.block 7 rfl);have G:=Lib.hid g15.mod;clear g15))
      clear hz0 hz1 hz2 hz3 K8 K9 TK TD
      go_wp2_with fail
      go_ret
      exact⟨rfl,G.out⟩
end
end Go.Proofs.YtogclkhpbjfadaaGreat
