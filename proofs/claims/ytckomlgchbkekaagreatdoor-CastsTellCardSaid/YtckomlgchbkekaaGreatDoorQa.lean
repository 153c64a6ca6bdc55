/- What the proof of the statement leans on (part 1). -/
import Derived.Calls
import Derived.Below
import Derived.Deep.Quiet
import Derived.KernelRfl

namespace Go.Lw
section
variable {B w:World}{a:Act}{o oi oj:Oper}{v:Value}{i m j d:Nat}{b:Bool}{od:Option Nat}{listed listed':Array Bool}
abbrev ai:=Array Obj
abbrev Env:=List (Nat×Value)
def Env.at:Env->Nat->Option Value
 | [],_=>none
 |(j,v)::r,i=>match Nat.beq j i with|true=>some v|false=>Env.at r i
def Env.put (ρ:Env) (dst:Option Nat) (v:Value):Env:=match dst with|some d=>(d,v)::ρ |none=>ρ
def cellAt (h:ai) (a:Addr):Option Value :=
 match h[a.block]? with
 |some (.cells c _ _)=>if a.spot.isSome then none else c[a.off]?
 |_=>none
def frozenAt (h:ai) (a:Addr):Bool :=
 match h[a.block]? with
 |some (.cells _ _ (lo,hi))=>lo<=a.off && a.off<hi
 |_=>false
structure At (B:World) (h:ai) (w:World):Prop where
 heap:w.heap=h
 os:w.os=B.os
 tape:w.tape=B.tape
 output:w.output=B.output
theorem At.cell {B:World}{h:ai}{w:World}(k:At B h w) (a:Addr):w.cell? a=cellAt h a:=by
 rw[<-k.heap];rfl
theorem At.frozen {B:World}{h:ai}{w:World}(k:At B h w) (a:Addr):w.frozen? a=frozenAt h a:=by
 rw[<-k.heap];rfl
theorem rq (w:World):At w w.heap w:=⟨rfl,rfl,rfl,rfl⟩
theorem At.nP {h:ai}(k:At B h w) (h':ai):At B h' { w with heap:=h' }:=⟨rfl,k.os,k.tape,k.output⟩
theorem At.drew {h:ai}(k:At B h w):At B h { w with drawn:=w.drawn+1 }:=⟨k.heap,k.os,k.tape,k.output⟩
theorem At.base {h:ai}(k:At B h w){h':ai}{w':World}(k':At w h' w'):At B h' w':=⟨k'.heap,k'.os.trans k.os,k'.tape.trans k.tape,k'.output.trans k.output⟩
structure Fits (n:Nat) (ρ:Env) (a:Act):Prop where
 size:a.tmps.size=n
 ok:∀i v,ρ.at i=some v->a.tmps[i]? =some v
 nd:a.defers=[]
def iG (n:Nat):Option Nat->Bool
 |some d=>Nat.blt d n
 |none=>true
theorem Env.dY (j:Nat) (v:Value) (ρ:Env) (i:Nat):Env.at ((j,v)::ρ) i=if j=i then some v else ρ.at i:=by
 simp only[Env.at]
 by_cases h:j=i
 · subst h;simp
 · have:Nat.beq j i=false:=by
    cases hb:Nat.beq j i
    · rfl
    · exact absurd (Nat.eq_of_beq_eq_true hb) h
   simp[this,h]
theorem Fits.put {n:Nat}{ρ:Env}{a:Act}(f:Fits n ρ a){dst:Option Nat}(hd:iG n dst=true) (v:Value):Fits n (ρ.put dst v) (a.put dst v):=by
 cases dst with
 |none=>exact f
 |some d =>
  have hd':d<n:=Nat.blt_eq.mp hd;refine⟨by simp[Act.put,f.size],fun i u h=>?_,f.nd⟩;simp only[Env.put,Env.dY] at h;simp only[Act.put];split at h
  · rename_i e;subst e;cases h;rw[Array.getElem?_setIfInBounds_self_of_lt (by rw[f.size];exact hd')]
  · rename_i e;rw[Array.getElem?_setIfInBounds_ne e];exact f.ok i u h
def aT (ρ:Env):Operand->Option Value
 |.tmp t=>ρ.at t
 |.const v=>some v
 |.global g=>some (.pointer (some ⟨g,0,none⟩))
 |.func f=>some (.func (.func f) #[] #[])
theorem Fits.eval {n:Nat}{ρ:Env}{a:Act}(f:Fits n ρ a){x:Operand}{v:Value}(h:aT ρ x=some v):a.eval x=v:=by
 cases x with
 |tmp t=>simp only[aT] at h;have:=f.ok t v h;simp[Act.eval,this]
 |const u=>simp only[aT] at h;cases h;rfl
 |global g=>simp only[aT] at h;cases h;rfl
 |func g=>simp only[aT] at h;cases h;rfl
def Sub:Env->Env->Prop
 | [],_=>True
 |(i,v)::r,ρ=>ρ.at i=some v/\Sub r ρ
theorem Sub.at {ρ' ρ:Env}(h:Sub ρ' ρ) (i:Nat) (v:Value) (hi:ρ'.at i=some v):ρ.at i=some v:=by
 induction ρ' with
 |nil=>simp[Env.at] at hi
 |cons p r ih =>
  obtain⟨j,u⟩:=p;rw[Env.dY] at hi;split at hi
  · rename_i e;subst e;cases hi;exact h.1
  · exact ih h.2 hi
theorem Fits.sub {n:Nat}{ρ ρ':Env}(f:Fits n ρ a) (h:Sub ρ' ρ):Fits n ρ' a:=⟨f.size,fun i v hi=>f.ok i v (h.at i v hi),f.nd⟩
def an (P:Program) (o:Oper) (ρ:Env) (h:ai) (v:Value):Prop :=
 ∀n B a w,Fits n ρ a->At B h w->(execOp a.eval o).run P w= .ok (.value v) w
def aH (P:Program) (o:Oper) (ρ:Env) (h:ai) (Φ:Value->ai->Prop) (X:List PanicEntry->ai->Prop):Prop :=
 ∀n B a w,Fits n ρ a->At B h w->∀next Q,(∀v h' w',At B h' w'->Φ v h'->next (a.put o.dst v) w') ->
  (∀ch h' w',At B h' w'->X ch h'->Q (.panic ch) a w')->o.wp P a w next Q
theorem an.jF {P:Program}{ρ:Env}{h:ai}{X:List PanicEntry->ai->Prop}(k:an P o ρ h v):aH P o ρ h (fun u h'=>u=v/\h'=h) X:=by
 intro n B a w hf ha next Q hn _
 unfold Oper.wp;rw[k n B a w hf ha];exact hn v h w ha ⟨rfl,rfl⟩
theorem aH.mono {P:Program}{ρ:Env}{h:ai}{Φ Φ':Value->ai->Prop}{X X':List PanicEntry->ai->Prop}(k:aH P o ρ h Φ X) (h1:∀v h',Φ v h'->Φ' v h') (h2:∀c h',X c h'->X' c h'):aH P o ρ h Φ' X' :=
 fun n B a w hf ha next Q hn hq=>k n B a w hf ha next Q (fun v h' w' ha' hv=>hn v h' w' ha' (h1 _ _ hv)) (fun c h' w' ha' hv=>hq c h' w' ha' (h2 _ _ hv))
def nth:List Oper->Nat->Option Oper
 | [],_=>none
 |a::_,0=>some a
 |_::l,n+1=>nth l n
theorem Cn:∀(l:List Oper) (i:Nat),nth l i=l[i]?
 | [],_=>rfl
 |_::_,0=>rfl
 |_::l,n+1=>by simpa [nth] using Cn l n
theorem dV {ops:Array Oper}(h:nth ops.toList i=some o):ops[i]? =some o:=by
 rw[Cn] at h;simpa using h
def aK (ops:Array Oper) (ρ:Env) (o:Oper):Option Bool :=
 match o.guard with
 |none=>some true
 |some (j,want) =>
  match (nth ops.toList j).bind (·.dst) with
  |none=>none
  |some d=>match ρ.at d with
   |some (.bool b)=>some (b ==want)
   |some (.tuple _)=>some false
   |_=>none
theorem cE {n:Nat}{ops:Array Oper}{ρ:Env}(f:Fits n ρ a) (h:aK ops ρ o=some b):Region.wanted o (yielded ops a.tmps)=b:=by
 unfold aK at h;unfold Region.wanted;cases hg:o.guard with
 |none=>simp[hg] at h;simp[h]
 |some p =>
  obtain⟨j,want⟩:=p;simp only[hg] at h;unfold yielded;rw[Cn,Array.getElem?_toList] at h;cases ho:ops[j]? with
  |none=>simp[ho] at h
  |some oj =>
   simp only[ho,Option.bind_some] at h ⊢;cases hdst:oj.dst with
   |none=>simp[hdst] at h
   |some d =>
    simp only[hdst,Option.bind_some] at h ⊢;cases hv:ρ.at d with
    |none=>simp[hv] at h
    |some v =>
     rw[f.ok d v hv];simp only[hv] at h;cases v<;>simp at h ⊢ <;>first|exact h|(rw[h])
def RW (P:Program) (n:Nat) (ops:Array Oper) (i:Nat) (ρ:Env) (h:ai) (N:Env->ai->Prop) (X:List PanicEntry->ai->Prop):Prop :=
 ∀B a w,Fits n ρ a->At B h w->∀Q:Exit->Act->World->Prop,(∀ρ' h' a' w',Fits n ρ' a'->At B h' w'->N ρ' h'->Q .normal a' w') ->
  (∀ch h' a' w',a'.defers=[]->At B h' w'->X ch h'->Q (.panic ch) a' w')->wpOps P ops Q ((List.range ops.size).drop i) a w
section
variable {P:Program}{n:Nat}{ops:Array Oper}{i:Nat}{ρ:Env}{h:ai}{N:Env->ai->Prop}{X:List PanicEntry->ai->Prop}
theorem fh (hi:i<m):(List.range m).drop i=i::(List.range m).drop (i+1):=by
 rw[List.drop_eq_getElem_cons (by simpa using hi)];simp
theorem gj (ho:ops[i]? =some o):i<ops.size:=by
 rcases Nat.lt_or_ge i ops.size with h|h
 · exact h
 · simp[Array.getElem?_eq_none h] at ho
theorem RW.op {Φ:Value->ai->Prop}(ho':nth ops.toList i=some o) (hw:aK ops ρ o=some true) (hod:o.dst=od) (hd:iG n od=true) (k:aH P o ρ h Φ X)
 (next:∀v h',Φ v h'->RW P n ops (i+1) (ρ.put od v) h' N X):RW P n ops i ρ h N X:=by
 subst hod;have ho:=dV ho';intro B a w hf ha Q hN hX;rw[fh (gj ho)];simp only[wpOps,ho];rw[cE hf hw,if_pos rfl];refine .inl (k n B a w hf ha _ _ (fun v h' w' ha' hv=>?_) (fun ch h' w' ha' hx=>hX ch h' a w' hf.nd ha' hx));exact next v h' hv B _ w' (hf.put hd v) ha' Q hN hX
theorem Jr (ho:nth ops.toList i=some o) (hw:aK ops ρ o=some true) (hod:o.dst=od) (hd:iG n od=true) (k:an P o ρ h v)
 (next:RW P n ops (i+1) (ρ.put od v) h N X):RW P n ops i ρ h N X :=
 RW.op ho hw hod hd k.jF (fun _ _ ⟨hv,hh⟩=>by subst hv;subst hh;exact next)
theorem Ec (ho':nth ops.toList i=some o) (hw:aK ops ρ o=some false) (hod:o.dst=od) (hd:iG n od=true)
 (next:RW P n ops (i+1) (ρ.put od undef) h N X):RW P n ops i ρ h N X:=by
 subst hod;have ho:=dV ho';intro B a w hf ha Q hN hX;rw[fh (gj ho)];simp only[wpOps,ho];rw[cE hf hw,if_neg (by simp)];exact next B _ w (hf.put hd _) ha Q hN hX
theorem eH (hi:Nat.ble ops.size i=true) (next:N ρ h):RW P n ops i ρ h N X:=by
 intro B a w hf ha Q hN _;have:ops.size<=i:=Nat.le_of_ble_eq_true hi;rw[List.drop_eq_nil_of_le (by simpa using this)];exact hN ρ h a w hf ha next
theorem BK {d:Nat}{b:Bool}(hb:ρ.at d=some (.bool b)) (ht:b=true->RW P n ops i ((d,.bool true)::ρ) h N X) (hn:b=false->RW P n ops i ((d,.bool false)::ρ) h N X):RW P n ops i ρ h N X:=by
 have key:∀a,Fits n ρ a->Fits n ((d,.bool b)::ρ) a:=fun a hf=>⟨hf.size,fun j v hv=>by
  rw[Env.dY] at hv;split at hv
  · rename_i e;subst e;cases hv;exact hf.ok d _ hb
  · exact hf.ok j v hv,hf.nd⟩
 cases b with
 |true=>exact fun B a w hf ha=>ht rfl B a w (key a hf) ha
 |false=>exact fun B a w hf ha=>hn rfl B a w (key a hf) ha
end
structure Ext (M:Nat->Prop) (h h':ai):Prop where
 size:h.size<=h'.size
 block:∀b,b<h.size->¬M b->h'[b]? =h[b]?
theorem av (M:Nat->Prop) (h:ai):Ext M h h:=⟨Nat.le_refl _,fun _ _ _=>rfl⟩
theorem Ext.trans {M:Nat->Prop}{a b c:ai}(h:Ext M a b) (k:Ext M b c):Ext M a c :=
 ⟨Nat.le_trans h.size k.size,fun i hi hm=>(k.block i (Nat.lt_of_lt_of_le hi h.size) hm).trans (h.block i hi hm)⟩
theorem Ext.mono {M M':Nat->Prop}{a b:ai}(h:Ext M a b) (hm:∀i,i<a.size->M i->M' i):Ext M' a b :=
 ⟨h.size,fun i hi hn=>h.block i hi (fun k=>hn (hm i hi k))⟩
theorem ck {h:ai}{a:Addr}(k:cellAt h a=some v):a.block<h.size:=by
 rcases Nat.lt_or_ge a.block h.size with hl|hl
 · exact hl
 · simp[cellAt,Array.getElem?_eq_none hl] at k
theorem Ext.cell {M:Nat->Prop}{h h':ai}(e:Ext M h h'){a:Addr}(hm:¬M a.block) (k:cellAt h a=some v):cellAt h' a=some v:=by
 have:=e.block a.block (ck k) hm;unfold cellAt at *;rw[this];exact k
def vu (P:Program) (ops:Array Oper) (M:Nat->Prop) (keeps:Nat->Bool) (Q:Exit->Act->World->Prop):Nat->Array Bool->Act->World->Prop
 | 0,listed,a,w=>Region.ready .any ops listed=[]/\Q .normal a w
 |fuel+1,listed,a,w =>
  (Region.ready .any ops listed=[]->Q .normal a w) /\
  ∀i∈Region.ready .any ops listed,wpOp P ops Q i (fun a' w'=>(keeps i=true->Ext M w.heap w'.heap)/\vu P ops M keeps Q fuel (listed.setIfInBounds i true) a' w') a w
section
variable {P:Program}{ops:Array Oper}{M:Nat->Prop}{keeps:Nat->Bool}{Q:Exit->Act->World->Prop}
theorem mB:∀(fuel:Nat) (listed:Array Bool) (a:Act) (w:World),vu P ops M keeps Q fuel listed a w->wpAny P .any ops Q fuel listed a w
 | 0,_,_,_,h=>h
 |fuel+1,_,_,_,h=>⟨h.1,fun i hi=>wpOp_mono (fun a' w' h'=>mB fuel _ a' w' h'.2) (h.2 i hi)⟩
def eX (P:Program) (ops:Array Oper) (M:Nat->Prop) (o:Oper) (v:Value) (a:Act) (w:World):Prop :=
 (Region.wanted o (yielded ops a.tmps)=true/\∀w',Ext M w.heap w'.heap->(execOp a.eval o).run P w'= .ok (.value v) w') \/
 (Region.wanted o (yielded ops a.tmps)=false/\v=undef)
theorem eX.wpOp {i:Nat}{o:Oper}{v:Value}{a:Act}{w:World}(hi:ops[i]? =some o) (hy:eX P ops M o v a w)
 {K:Act->World->Prop}(h:K (a.put o.dst v) w):wpOp P ops Q i K a w:=by
 unfold Go.wpOp;simp only[hi]
 rcases hy with ⟨hw,hv⟩|⟨hw,rfl⟩
 · simp only[hw,if_true,Oper.wp,hv w (av _ _),Oper.upon];exact .inl h
 · simp only[hw,Bool.false_eq_true,if_false];exact h
theorem eX.of_same {a':Act}{w':World}(hy:eX P ops M o v a w) (he:execOp a'.eval o=execOp a.eval o)
 (hw:Region.wanted o (yielded ops a'.tmps)=Region.wanted o (yielded ops a.tmps)) (hE:Ext M w.heap w'.heap):eX P ops M o v a' w':=by
 unfold eX at *;rw[he,hw]
 rcases hy with ⟨h1,h2⟩|h
 · exact .inl ⟨h1,fun w'' h''=>h2 w'' (hE.trans h'')⟩
 · exact .inr h
theorem Em (hj:ops[j]? =some oj) (hap:oi.apart ops oj=true)
 (hsi:∀cs b,oi.op≠ .select cs b) (hsj:∀cs b,oj.op≠ .select cs b)
 (hQ:∀c a w,Q (.panic c) (a.put oi.dst v) w->Q (.panic c) a w){K:Act->World->Prop}
 (hy:eX P ops M oi v a w) (h:Go.wpOp P ops Q j (fun a' w'=>Ext M w.heap w'.heap/\K a' w') (a.put oi.dst v) w) :
 Go.wpOp P ops Q j (fun a' w'=>Ext M w.heap w'.heap/\eX P ops M oi v a' w'/\K (a'.put oi.dst v) w') a w:=by
 obtain⟨h1,h2,h3⟩:=Oper.apart_spec hap
 have keep:∀(a:Act) (w w':World),eX P ops M oi v a w->Ext M w.heap w'.heap->∀u,eX P ops M oi v (a.put oj.dst u) w':=fun a w w' hy he u =>
  hy.of_same (execOp_put oi hsi a oj.dst u h3) (wanted_put oi a oj.dst u h3) he
 have keepD:∀d (w':World),Ext M w.heap w'.heap->eX P ops M oi v { a with defers:=d::a.defers } w':=fun d w' he=>hy.of_same rfl rfl he
 unfold Go.wpOp at *;simp only[hj] at *;rw[wanted_put oj a oi.dst v h1] at h;split
 · rename_i hw;simp only[hw,if_true] at h
   rcases h with h|⟨hasks,hlets⟩
   case inr=>exact .inr ⟨by unfold Oper.asks at *;rw[execOp_put oj hsj a oi.dst v h1] at hasks;exact hasks,hlets⟩
   refine .inl ?_;unfold Oper.wp at *;rw[execOp_put oj hsj a oi.dst v h1] at h;generalize (execOp a.eval oj).run P w=r at *;cases r with
   |ok n w' =>
    cases n<;>simp only[Oper.upon] at h ⊢
    case value u=>exact⟨h.1,keep _ _ _ hy h.1 u,by rw[<-Act.put_comm a v u h2];exact h.2⟩
    case skip=>exact⟨h.1,keep _ _ _ hy h.1 undef,by rw[<-Act.put_comm a v undef h2];exact h.2⟩
    case defer d =>
     refine⟨h.1,?_,?_⟩
     · exact(keepD d w' h.1).of_same (execOp_put oi hsi _ oj.dst undef h3) (wanted_put oi _ oj.dst undef h3) (av _ _)
     · have hk:=h.2;rw[Act.put_defers] at hk;rw[<-Act.put_comm _ v undef h2];exact hk
    case enter f args =>
     refine h.mono fun e w'' hr=>?_
     cases e with
     |returned u=>exact⟨hr.1,keep _ _ _ hy hr.1 u,by rw[<-Act.put_comm a v u h2];exact hr.2⟩
     |panicked c=>exact hQ c a w'' hr
     |outgrown=>exact hr
    case row row args =>
     exact h.mono fun u w'' hr=>⟨hr.1,keep _ _ _ hy hr.1 u,by rw[<-Act.put_comm a v u h2];exact hr.2⟩
   |halt x w' =>
    cases x<;>simp only[Oper.upon] at h ⊢
    case panic u=>exact hQ _ a w' h
 · rename_i hw;simp only[hw] at h;exact⟨h.1,keep _ _ _ hy h.1 _,by rw[<-Act.put_comm a v undef h2];exact h.2⟩
def dQ (ops:Array Oper) (listed:Array Bool) (i:Nat):Nat->Nat->Bool
 | 0,_=>false
 |m+1,j=>match ops[j]? with
  |some oj=>oj.after.any fun e=>Region.binds .any e && (e.on ==i ||(!(listed.getD e.on true) && dQ ops listed i m e.on))
  |none=>false
theorem pM (h:dQ ops listed i (m+1) j=true):∃oj,ops[j]? =some oj/\∃e∈oj.after,Region.binds .any e=true/\(e.on=i\/(listed.getD e.on true=false/\dQ ops listed i m e.on=true)):=by
 unfold dQ at h;split at h
 · rename_i oj hoj;obtain⟨e,he,hb⟩:=Array.any_eq_true'.1 h;simp only[Bool.and_eq_true,Bool.or_eq_true,beq_iff_eq,Bool.not_eq_true'] at hb;exact⟨oj,hoj,e,he,hb⟩
 · cases h
theorem oM (hoj:ops[j]? =some oj){e:Edge}(he:e∈oj.after) (hb:Region.binds .any e=true) (h:e.on=i\/(listed.getD e.on true=false/\dQ ops listed i m e.on=true)):dQ ops listed i (m+1) j=true:=by
 unfold dQ;rw[hoj];refine Array.any_eq_true'.2 ⟨e,he,?_⟩;simp only[Bool.and_eq_true,Bool.or_eq_true,beq_iff_eq,Bool.not_eq_true'];exact⟨hb,h⟩
theorem mV (hi:i∈Region.ready .any ops listed) (h:dQ ops listed i m j=true):j∉Region.ready .any ops listed:=by
 intro hj;cases m with
 |zero=>cases h
 |succ m =>
  obtain⟨oj,hoj,e,he,hb,hc⟩:=pM h;obtain⟨_,oj',hoj',hall⟩:=mem_ready.1 hj;rw[hoj] at hoj';cases hoj';have h1:=hall e he hb
  have hu:listed.getD e.on true=false:=by
   rcases hc with hc|hc
   · rw[hc];exact(mem_ready.1 hi).1
   · exact hc.1
  rcases Nat.lt_or_ge e.on listed.size with h'|h'
  · simp[h'] at hu h1;rw[hu] at h1;cases h1
  · simp[Array.getElem?_eq_none h'] at h1
theorem lq {listed:Array Bool}{i j:Nat}(hi:i∈Region.ready .any ops listed) (hj:j∈Region.ready .any ops listed):∀(m k:Nat),dQ ops listed i m k=true->dQ ops (listed.setIfInBounds j true) i m k=true
 | 0,_,h=>by cases h
 |m+1,k,h=>by
  obtain⟨ok,hok,e,he,hb,hc⟩:=pM h;refine oM hok he hb (hc.imp id fun⟨h1,h2⟩=>⟨?_,lq hi hj m _ h2⟩);have hne:j≠e.on:=fun q=>mV hi h2 (q▸hj)
  rw[getD_set_ne true hne];exact h1
theorem uf (hi:ops[i]? =some oi) (hsel:∀(j:Nat) (o:Oper) cs b,ops[j]? =some o->o.op≠ .select cs b)
 (hQ:∀c a w,Q (.panic c) (a.put oi.dst v) w->Q (.panic c) a w) :
 ∀(fuel:Nat) (listed:Array Bool) (a:Act) (w:World),
  (∀j oj,ops[j]? =some oj->j≠i->listed.getD j true=false->(∃m,dQ ops listed i m j=true)\/(keeps j=true/\oi.apart ops oj=true)) ->
  i∈Region.ready .any ops listed->eX P ops M oi v a w ->
  vu P ops M keeps Q fuel (listed.setIfInBounds i true) (a.put oi.dst v) w->vu P ops M keeps Q (fuel+1) listed a w:=by
 intro fuel
 induction fuel with
 |zero =>
  intro listed a w _ hr hy H;refine⟨fun h=>(by rw[h] at hr;cases hr),fun j hj=>?_⟩
  by_cases hji:j=i
  · subst hji;exact hy.wpOp hi ⟨fun _=>av _ _,H⟩
  · have:=ready_mono hj hji;rw[H.1] at this;cases this
 |succ fuel ih =>
  intro listed a w hfree hr hy H;refine⟨fun h=>(by rw[h] at hr;cases hr),fun j hj=>?_⟩
  by_cases hji:j=i
  · subst hji;exact hy.wpOp hi ⟨fun _=>av _ _,H⟩
  · have h1:=H.2 j (ready_mono hj hji);obtain⟨hjun,oj,hoj,hall⟩:=mem_ready.1 hj;obtain⟨hkj,hapj⟩:=(hfree j oj hoj hji hjun).resolve_left fun⟨m,hm⟩=>mV hr hm hj
    have h1':=wpOp_mono (K':=fun a' w'=>Ext M w.heap w'.heap/\vu P ops M keeps Q fuel ((listed.setIfInBounds i true).setIfInBounds j true) a' w') (fun a' w' hh=>⟨hh.1 hkj,hh.2⟩) h1;have h2:=Em hoj hapj (fun cs b=>hsel i oi cs b hi) (fun cs b=>hsel j oj cs b hoj) hQ hy h1'
    have hfree':∀k ok,ops[k]? =some ok->k≠i->(listed.setIfInBounds j true).getD k true=false ->
     (∃m,dQ ops (listed.setIfInBounds j true) i m k=true)\/(keeps k=true/\oi.apart ops ok=true):=fun k ok hk hki hun=>by
     refine(hfree k ok hk hki ?_).imp (fun⟨m,hm⟩=>⟨m,lq hr hj m k hm⟩) id
     by_cases hjk:j=k
     · subst hjk;exact hjun
     · rw[getD_set_ne true hjk] at hun;exact hun
    refine wpOp_mono (fun a' w' h3=>⟨fun _=>h3.1,ih (listed.setIfInBounds j true) a' w' hfree' (ready_mono hr (Ne.symm hji)) h3.2.1 ?_⟩) h2;rw[Array.setIfInBounds_comm _ _ hji];exact h3.2.2
def qh (ops:Array Oper) (keeps:Nat->Bool) (listed:Array Bool) (i:Nat):Bool :=
 match ops[i]? with
 |none=>false
 |some oi=>(List.range ops.size).all fun j=>j ==i ||listed.getD j true ||match ops[j]? with
  |some oj=>oj.after.any (fun e=>Region.binds .any e && e.on ==i) ||((keeps j && oi.apart ops oj) ||dQ ops listed i 6 j)
  |none=>true
theorem tf (hi:ops[i]? =some oi) (h:qh ops keeps listed i=true) (j:Nat) (oj:Oper)
 (hj:ops[j]? =some oj) (hne:j≠i) (hun:listed.getD j true=false):(∃m,dQ ops listed i m j=true)\/(keeps j=true/\oi.apart ops oj=true):=by
 simp only[qh,hi,List.all_eq_true,List.mem_range] at h;have h1:=h j (Array.getElem?_eq_some_iff.1 hj).1;simp only[hj,Bool.or_eq_true,beq_iff_eq,hne,false_or,hun,Bool.false_eq_true] at h1
 rcases h1 with h1|h1|h1
 · obtain⟨e,he,hb⟩:=Array.any_eq_true'.1 h1;simp only[Bool.and_eq_true,beq_iff_eq] at hb;exact .inl ⟨1,oM hj he hb.1 (.inl hb.2)⟩
 · exact .inr (by simpa using h1)
 · exact .inl ⟨6,h1⟩
end
def RD (P:Program) (n:Nat) (ops:Array Oper) (M:Nat->Prop) (keeps:Nat->Bool) (fuel:Nat) (listed:Array Bool) (ρ:Env) (h:ai) (N:Env->ai->Prop) (X:List PanicEntry->ai->Prop):Prop :=
 ∀B a w,Fits n ρ a->At B h w->vu P ops M keeps (fun e a' w'=>match e with
  |.normal=>∃ρ' h',Fits n ρ' a'/\At B h' w'/\N ρ' h'
  |.panic ch=>a'.defers=[]/\∃h',At B h' w'/\X ch h'
  |_=>False) fuel listed a w
section
variable {P:Program}{n:Nat}{ops:Array Oper}{M:Nat->Prop}{keeps:Nat->Bool}{fuel:Nat}{listed:Array Bool}{ρ:Env}{h:ai}{N:Env->ai->Prop}{X:List PanicEntry->ai->Prop}
theorem RD.take (i:Nat) (ho':nth ops.toList i=some o) (hs:Region.noSelect ops=true) (hf:qh ops keeps listed i=true) (hr:(Region.ready .any ops listed).contains i=true)
 (hw:aK ops ρ o=some true) (hod:o.dst=od) (hd:iG n od=true) (k:∀h',Ext M h h'->an P o ρ h' v) (hl:listed.setIfInBounds i true=listed')
 (next:RD P n ops M keeps fuel listed' (ρ.put od v) h N X):RD P n ops M keeps (fuel+1) listed ρ h N X:=by
 subst hl;subst hod;have ho:=dV ho';intro B a w hf' ha;refine uf ho (Region.noSelect_spec hs) (fun c a w hq=>⟨by cases hdd:o.dst<;>simpa [Act.put,hdd] using hq.1,hq.2⟩) fuel listed a w (tf ho hf) (by simpa using hr) (.inl ⟨cE hf' hw,fun w' he=>?_⟩) (next B _ w (hf'.put hd v) ha);rw[ha.heap] at he;exact k w'.heap he n w' a w' hf' (rq w')
theorem Js (i:Nat) (ho':nth ops.toList i=some o) (hs:Region.noSelect ops=true) (hf:qh ops keeps listed i=true) (hr:(Region.ready .any ops listed).contains i=true)
 (hw:aK ops ρ o=some false) (hod:o.dst=od) (hd:iG n od=true) (hl:listed.setIfInBounds i true=listed')
 (next:RD P n ops M keeps fuel listed' (ρ.put od undef) h N X):RD P n ops M keeps (fuel+1) listed ρ h N X:=by
 subst hl;subst hod;have ho:=dV ho';intro B a w hf' ha;exact uf ho (Region.noSelect_spec hs) (fun c a w hq=>⟨by cases hdd:o.dst<;>simpa [Act.put,hdd] using hq.1,hq.2⟩) fuel listed a w (tf ho hf) (by simpa using hr) (.inr ⟨cE hf' hw,rfl⟩) (next B _ w (hf'.put hd _) ha)
theorem RD.one (i:Nat){Φ:Value->ai->Prop}(ho':nth ops.toList i=some o) (hr:Region.ready .any ops listed=[i])
 (hw:aK ops ρ o=some true) (hod:o.dst=od) (hd:iG n od=true) (k:aH P o ρ h Φ X) (hl:listed.setIfInBounds i true=listed')
 (next:∀v h',Φ v h'->(keeps i=true->Ext M h h')/\RD P n ops M keeps fuel listed' (ρ.put od v) h' N X):RD P n ops M keeps (fuel+1) listed ρ h N X:=by
 subst hl;subst hod;have ho:=dV ho';intro B a w hf' ha;refine⟨fun h0=>(by rw[hr] at h0;cases h0),fun j hj=>?_⟩;rw[hr] at hj;obtain rfl:j=i:=by simpa using hj
 unfold wpOp;simp only[ho];rw[cE hf' hw,if_pos rfl];refine .inl (k n B a w hf' ha _ _ (fun v h' w' ha' hv=>?_) (fun ch h' w' ha' hx=>⟨hf'.nd,h',ha',hx⟩));obtain⟨h1,h2⟩:=next v h' hv
 exact⟨fun hk=>by rw[ha.heap,ha'.heap];exact h1 hk,h2 B _ w' (hf'.put hd v) ha'⟩
theorem HZ (i j:Nat){Φ Φ':Value->ai->Prop}{li lj:Array Bool}(hi':nth ops.toList i=some oi) (hj':nth ops.toList j=some oj) (hr:Region.ready .any ops listed=[i,j])
 (hwi:aK ops ρ oi=some true) (hwj:aK ops ρ oj=some true){di dj:Option Nat}(hodi:oi.dst=di) (hodj:oj.dst=dj) (hdi:iG n di=true) (hdj:iG n dj=true) (ki:aH P oi ρ h Φ X) (kj:aH P oj ρ h Φ' X)
 (hli:listed.setIfInBounds i true=li) (hlj:listed.setIfInBounds j true=lj)
 (nexti:∀v h',Φ v h'->(keeps i=true->Ext M h h')/\RD P n ops M keeps fuel li (ρ.put di v) h' N X)
 (nextj:∀v h',Φ' v h'->(keeps j=true->Ext M h h')/\RD P n ops M keeps fuel lj (ρ.put dj v) h' N X):RD P n ops M keeps (fuel+1) listed ρ h N X:=by
 subst hli;subst hlj;subst hodi;subst hodj;have hi:=dV hi';have hj:=dV hj';intro B a w hf' ha;refine⟨fun h0=>(by rw[hr] at h0;cases h0),fun k hk=>?_⟩;rw[hr] at hk;have:k=i\/k=j:=by simpa using hk
 rcases this with rfl|rfl
 · unfold wpOp;simp only[hi];rw[cE hf' hwi,if_pos rfl];refine .inl (ki n B a w hf' ha _ _ (fun v h' w' ha' hv=>?_) (fun ch h' w' ha' hx=>⟨hf'.nd,h',ha',hx⟩));obtain⟨h1,h2⟩:=nexti v h' hv;exact⟨fun hk=>by rw[ha.heap,ha'.heap];exact h1 hk,h2 B _ w' (hf'.put hdi v) ha'⟩
 · unfold wpOp;simp only[hj];rw[cE hf' hwj,if_pos rfl];refine .inl (kj n B a w hf' ha _ _ (fun v h' w' ha' hv=>?_) (fun ch h' w' ha' hx=>⟨hf'.nd,h',ha',hx⟩));obtain⟨h1,h2⟩:=nextj v h' hv;exact⟨fun hk=>by rw[ha.heap,ha'.heap];exact h1 hk,h2 B _ w' (hf'.put hdj v) ha'⟩
theorem rf (hr:Region.ready .any ops listed=[]) (next:N ρ h):RD P n ops M keeps fuel listed ρ h N X:=by
 intro B a w hf' ha;have hq:∃ρ' h',Fits n ρ' a/\At B h' w/\N ρ' h':=⟨ρ,h,hf',ha,next⟩
 cases fuel with
 |zero=>exact⟨hr,hq⟩
 |succ k=>exact⟨fun _=>hq,fun i hi=>by rw[hr] at hi;cases hi⟩
theorem H6 {d:Nat}{b:Bool}(hb:ρ.at d=some (.bool b)) (ht:b=true->RD P n ops M keeps fuel listed ((d,.bool true)::ρ) h N X) (hn:b=false->RD P n ops M keeps fuel listed ((d,.bool false)::ρ) h N X):RD P n ops M keeps fuel listed ρ h N X:=by
 have key:∀a,Fits n ρ a->Fits n ((d,.bool b)::ρ) a:=fun a hf=>⟨hf.size,fun j v hv=>by
  rw[Env.dY] at hv;split at hv
  · rename_i e;subst e;cases hv;exact hf.ok d _ hb
  · exact hf.ok j v hv,hf.nd⟩
 cases b with
 |true=>exact fun B a w hf ha=>ht rfl B a w (key a hf) ha
 |false=>exact fun B a w hf ha=>hn rfl B a w (key a hf) ha
end
section
variable {P:Program}{n:Nat}{ops:Array Oper}{i:Nat}{ρ:Env}{h:ai}{N:Env->ai->Prop}{X:List PanicEntry->ai->Prop}{M:Nat->Prop}{keeps:Nat->Bool}{fuel:Nat}{listed:Array Bool}
theorem RW.r9 {Φ:Value->ai->Prop}(ho:nth ops.toList i=some o) (hw:aK ops ρ o=some true) (hod:o.dst=some d) (hd:Nat.blt d n=true) (k:aH P o ρ h Φ X)
 (next:∀v h',Φ v h'->RW P n ops (i+1) ((d,v)::ρ) h' N X):RW P n ops i ρ h N X:=RW.op ho hw hod hd k next
theorem RW.mL {Φ:Value->ai->Prop}(ho:nth ops.toList i=some o) (hw:aK ops ρ o=some true) (hod:o.dst=none) (k:aH P o ρ h Φ X)
 (next:∀v h',Φ v h'->RW P n ops (i+1) ρ h' N X):RW P n ops i ρ h N X:=RW.op ho hw hod rfl k next
theorem RW.aB (ho:nth ops.toList i=some o) (hw:aK ops ρ o=some true) (hod:o.dst=some d) (hd:Nat.blt d n=true) (k:an P o ρ h v)
 (next:RW P n ops (i+1) ((d,v)::ρ) h N X):RW P n ops i ρ h N X:=Jr ho hw hod hd k next
theorem RW.mG (ho:nth ops.toList i=some o) (hw:aK ops ρ o=some false) (hod:o.dst=some d) (hd:Nat.blt d n=true)
 (next:RW P n ops (i+1) ((d,undef)::ρ) h N X):RW P n ops i ρ h N X:=Ec ho hw hod hd next
theorem RW.MG (ho:nth ops.toList i=some o) (hw:aK ops ρ o=some false) (hod:o.dst=none)
 (next:RW P n ops (i+1) ρ h N X):RW P n ops i ρ h N X:=Ec ho hw hod rfl next
theorem RD.FY (i:Nat) (ho:nth ops.toList i=some o) (hs:Region.noSelect ops=true) (hf:qh ops keeps listed i=true) (hr:(Region.ready .any ops listed).contains i=true)
 (hw:aK ops ρ o=some true) (hod:o.dst=some d) (hd:Nat.blt d n=true) (k:∀h',Ext M h h'->an P o ρ h' v) (hl:listed.setIfInBounds i true=listed')
 (next:RD P n ops M keeps fuel listed' ((d,v)::ρ) h N X):RD P n ops M keeps (fuel+1) listed ρ h N X:=RD.take i ho hs hf hr hw hod hd k hl next
theorem RD.mG (i:Nat) (ho:nth ops.toList i=some o) (hs:Region.noSelect ops=true) (hf:qh ops keeps listed i=true) (hr:(Region.ready .any ops listed).contains i=true)
 (hw:aK ops ρ o=some false) (hod:o.dst=some d) (hd:Nat.blt d n=true) (hl:listed.setIfInBounds i true=listed')
 (next:RD P n ops M keeps fuel listed' ((d,undef)::ρ) h N X):RD P n ops M keeps (fuel+1) listed ρ h N X:=Js i ho hs hf hr hw hod hd hl next
theorem RD.MU (i:Nat){Φ:Value->ai->Prop}(ho:nth ops.toList i=some o) (hr:Region.ready .any ops listed=[i])
 (hw:aK ops ρ o=some true) (hod:o.dst=some d) (hd:Nat.blt d n=true) (k:aH P o ρ h Φ X) (hl:listed.setIfInBounds i true=listed')
 (next:∀v h',Φ v h'->(keeps i=true->Ext M h h')/\RD P n ops M keeps fuel listed' ((d,v)::ρ) h' N X):RD P n ops M keeps (fuel+1) listed ρ h N X:=RD.one i ho hr hw hod hd k hl next
theorem RD.OX (i:Nat){Φ:Value->ai->Prop}(ho:nth ops.toList i=some o) (hr:Region.ready .any ops listed=[i])
 (hw:aK ops ρ o=some true) (hod:o.dst=none) (k:aH P o ρ h Φ X) (hl:listed.setIfInBounds i true=listed')
 (next:∀v h',Φ v h'->(keeps i=true->Ext M h h')/\RD P n ops M keeps fuel listed' ρ h' N X):RD P n ops M keeps (fuel+1) listed ρ h N X:=RD.one i ho hr hw hod rfl k hl next
theorem RD.OL (i j:Nat){Φ Φ':Value->ai->Prop}{li lj:Array Bool}{di dj:Nat}(hi:nth ops.toList i=some oi) (hj:nth ops.toList j=some oj) (hr:Region.ready .any ops listed=[i,j])
 (hwi:aK ops ρ oi=some true) (hwj:aK ops ρ oj=some true) (hodi:oi.dst=some di) (hodj:oj.dst=some dj) (hdi:Nat.blt di n=true) (hdj:Nat.blt dj n=true) (ki:aH P oi ρ h Φ X) (kj:aH P oj ρ h Φ' X)
 (hli:listed.setIfInBounds i true=li) (hlj:listed.setIfInBounds j true=lj)
 (nexti:∀v h',Φ v h'->(keeps i=true->Ext M h h')/\RD P n ops M keeps fuel li ((di,v)::ρ) h' N X)
 (nextj:∀v h',Φ' v h'->(keeps j=true->Ext M h h')/\RD P n ops M keeps fuel lj ((dj,v)::ρ) h' N X):RD P n ops M keeps (fuel+1) listed ρ h N X :=
 HZ i j hi hj hr hwi hwj hodi hodj hdi hdj ki kj hli hlj nexti nextj
theorem RW.aO {b':Bool}(hb:ρ.at d=some (.bool b)) (e:b=b') (next:RW P n ops i ((d,.bool b')::ρ) h N X):RW P n ops i ρ h N X:=by
 subst e;refine BK hb (fun e=>?_) (fun e=>?_)<;>(subst e;exact next)
theorem RD.aO {b':Bool}(hb:ρ.at d=some (.bool b)) (e:b=b') (next:RD P n ops M keeps fuel listed ((d,.bool b')::ρ) h N X):RD P n ops M keeps fuel listed ρ h N X:=by
 subst e;refine H6 hb (fun e=>?_) (fun e=>?_)<;>(subst e;exact next)
end
end
end Go.Lw
