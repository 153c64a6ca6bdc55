/- Part 19. -/
import Derived.RangeFuncSeq
import Derived.RangeFuncRecord
import Derived.RangeFuncLeaves
import Derived.TacticsIn
import Derived.Test.YtnjahnbpnpkmhaaGreatDoorQr

namespace Go.Lw
open Go.RowKit
section
variable {h:aq}{l n:Nat}{o:Oper}{r:Loop}{ro:Option Nat}{P:Program}{ρ:Env}{Φ:Value->aq->Prop}
def fk (h:aq) (l:Nat) (o:Obj):aq:=h.setIfInBounds l o
theorem At.fk {B:World}{h:aq}{w:World}(k:At B h w) (l:Nat) (o:Obj):At B (Lw.fk h l o) (w.putObj l o):=⟨by rw[<-k.heap];rfl,k.os,k.tape,k.output⟩
theorem GW (h:aq) (l:Nat) (o:Obj):(fk h l o).size=h.size:=by simp[fk]
theorem pY {o:Obj}(hl:l<h.size):(fk h l o)[l]? =some o:=by simp[fk,hl]
theorem Ext.fk {M:Nat->Prop}(h:aq) (l:Nat) (o:Obj) (hm:M l):Ext M h (Lw.fk h l o) :=
 ⟨by simp[GW],λb _ J=>by
  have I:¬l=b:=λe=>J (e▸hm)
  simp[Lw.fk,Array.getElem?_setIfInBounds_ne I]⟩
def eG (h:aq) (l:Nat) (r:Loop):Prop:=h[l]? =some (.loop r)
theorem eG.lt (k:eG h l r):l<h.size:=(Array.getElem?_eq_some_iff.1 k).1
theorem eG.ext {M:Nat->Prop}{h':aq}(k:eG h l r) (e:Ext M h h') (hm:¬M l):eG h' l r:=(e.block l k.lt hm).trans k
def FW (ro:Option Nat):Fence:= { Fence.wide with round:=ro }
theorem Ht (ro:Option Nat) (P:Program) (m:Machine):m.fenced P (FW ro):=fenced_wide P m
theorem xU {m I:Machine}(h:Steps P m I):StepsIn (Machine.fenced P (FW ro)) P m I:=(StepsIn.of_steps h).mono λm _=>Ht ro P m
theorem JH {m I:Machine}{e:Ending}(h:Comes P m I e):ComesIn (Machine.fenced P (FW ro)) P m I e:=by
 cases e with
 |returned v=>exact xU h
 |panicked c=>exact xU h
 |outgrown=>exact h
theorem Dx {f:FuncId}{args:Array Value}{w:World}{R:Ending->World->Prop}(h:Calls P f args w R):CallsIn (FW ro) n P f args w R :=
 ⟨trivial,λcs _=>let ⟨e,w',fr,r,s,x⟩:=h cs;⟨e,w',fr,r,JH s,x⟩⟩
theorem aV.Rd {X:List PanicEntry->aq->Prop}(k:aV P o ρ h Φ X) (Y:∀c,o.op≠ .defer c){m:Nat}{B:World}{a:Act}{w:World}(hf:Fits n ρ a) (ha:At B h w)
 {next:Act->World->Prop}{Q:Exit->Act->World->Prop}(hn:∀v h' w',At B h' w'->Φ v h'->next (a.put o.dst v) w') (hx:∀J h' w',At B h' w'->X J h'->Q (.panic J) a w'):o.wpIn (FW ro) m P a w next Q:=by
 have h0:=k n B a w hf ha next (λe a' w'=>match e with|.panic J=>Q (.panic J) a' w'|_=>False) hn (λJ h' w' Z hv=>hx J h' w' Z hv)
 refine⟨λ_ _=>trivial,?_⟩;rw[Oper.semAt_eq _ _ _ Y];unfold Oper.wp at h0;generalize (execOp a.eval o).run P w=r at *;have I:(FW ro).depth.isSome=true->1<=m:=λh=>by simp[FW,Fence.wide] at h
 cases r with
 |ok x w' =>
  cases x<;>simp only[Oper.upon] at h0<;>simp only[Oper.uponIn]
  case value v=>exact h0
  case skip=>exact h0
  case defer d=>exact h0
  case enter g args =>
   refine⟨I,Dx (h0.mono λe U hr=>?_)⟩;cases e with
   |returned v=>exact hr
   |panicked c=>exact hr
   |outgrown=>obtain⟨a₁,w₁,h3⟩:=hr;exact h3.elim
  case row row args =>
   refine⟨I,λc cs _=>?_⟩;obtain⟨v,U,r,s⟩:=h0 c cs;exact⟨v,U,r,xU s⟩
 |halt x w'=>cases x<;>simp only[Oper.upon] at h0<;>simp only[Oper.uponIn];exact h0
def iF (P:Program) (ro:Option Nat) (n:Nat) (ops:Array Oper) (i:Nat) (ρ:Env) (h:aq) (N:Env->aq->Prop) (X:List PanicEntry->aq->Prop):Prop :=
 ∀m B a w,Fits n ρ a->At B h w->∀Q:Exit->Act->World->Prop,(∀ρ' h' a' w',Fits n ρ' a'->At B h' w'->N ρ' h'->Q .normal a' w') ->
  (∀ch h' a' w',a'.defers=[]->At B h' w'->X ch h'->Q (.panic ch) a' w')->wpOpsIn (FW ro) m P ops Q ((List.range ops.size).drop i) a w
def qa (o:Oper):Bool:=match o.op with|.defer _=>false|_=>true
theorem Bm (h:qa o=true):∀c,o.op≠ .defer c:=λc e=>by simp[qa,e] at h
def nX (P:Program) (l:Nat) (args:Array Value) (h:aq) (R:Ending->aq->Prop):Prop:=∀m B w,At B h w->YieldAt (FW none) m P l args w (lift B R)
section
variable {P:Program}{ro:Option Nat}{n:Nat}{ops:Array Oper}{i:Nat}{ρ:Env}{h:aq}{N:Env->aq->Prop}{X:List PanicEntry->aq->Prop}
theorem iF.op (U:nth ops.toList i=some o) (hg:o.guard=none) (Y:qa o=true){od:Option Nat}(J:o.dst=od) (hd:ou n od=true) (k:aV P o ρ h Φ X)
 (next:∀v h',Φ v h'->iF P ro n ops (i+1) (ρ.put od v) h' N X):iF P ro n ops i ρ h N X:=by
 subst J;have ho:=jb U;intro m B a w Z ha Q hN hX;rw[kr (mI ho)];simp only[wpOpsIn,ho];have hw:Region.wanted o (yielded ops a.tmps)=true:=by unfold Region.wanted;rw[hg]
 rw[hw,if_pos rfl];exact k.Rd (Bm Y) Z ha (λv h' w' I hv=>next v h' hv m B _ w' (Z.put hd v) I Q hN hX) (λch h' w' I hx=>hX ch h' a w' Z.nd I hx)
theorem iF.HZ {d:Nat}(U:nth ops.toList i=some o) (Y:o.guard=none) (J:qa o=true) (I:o.dst=some d) (Z:Nat.blt d n=true) (k:aV P o ρ h Φ X)
 (next:∀v h',Φ v h'->iF P ro n ops (i+1) ((d,v)::ρ) h' N X):iF P ro n ops i ρ h N X:=iF.op U Y J I Z k next
theorem iF.FN (U:nth ops.toList i=some o) (Y:o.guard=none) (J:qa o=true) (I:o.dst=none) (k:aV P o ρ h Φ X)
 (next:∀v h',Φ v h'->iF P ro n ops (i+1) ρ h' N X):iF P ro n ops i ρ h N X:=iF.op U Y J I rfl k next
theorem iF.cC {v:Value}{d:Nat}(Y:nth ops.toList i=some o) (hg:o.guard=none) (J:qa o=true) (I:o.dst=some d) (hd:Nat.blt d n=true) (k:az P o ρ h v)
 (next:iF P ro n ops (i+1) ((d,v)::ρ) h N X):iF P ro n ops i ρ h N X:=iF.HZ Y hg J I hd k.HX (λ_ _ ⟨U,Z⟩=>by subst U;subst Z;exact next)
theorem mT (hi:Nat.ble ops.size i=true) (next:N ρ h):iF P ro n ops i ρ h N X:=by
 intro m B a w I J Q U _;have:ops.size<=i:=Nat.le_of_ble_eq_true hi;rw[List.drop_eq_nil_of_le (by simpa using this)];exact U ρ h a w I J next
theorem Av {o:Oper}{Φ:Value->aq->Prop}{d l:Nat}{xf:Operand}{xs:Array Operand}{ts:Array TypeId}{vs:List Value}(aa:nth ops.toList i=some o) (hg:o.guard=none) (J:o.op= .call ⟨.value xf,xs,ts⟩) (Z:o.dst=some d) (hd:Nat.blt d n=true)
 (U:bp ρ xf=some (.func (.yield l) #[] #[])) (Y:xs.toList.map (bp ρ)=vs.map some) (k:nX P l vs.toArray h (bK Φ))
 (next:∀v h',Φ v h'->iF P none n ops (i+1) ((d,v)::ρ) h' N X):iF P none n ops i ρ h N X:=by
 have ho:=jb aa;intro m B a w hf ha Q hN hX;rw[kr (mI ho)];simp only[wpOpsIn,ho];have hw:Region.wanted o (yielded ops a.tmps)=true:=by unfold Region.wanted;rw[hg]
 rw[hw,if_pos rfl];refine⟨λ_ _=>trivial,?_⟩
 have I:xs.map a.eval=vs.toArray:=by
  apply Array.ext'
  simp only[Array.toList_map]
  have key:∀(l:List Operand) (us:List Value),l.map (bp ρ)=us.map some->l.map a.eval=us:=by
   intro l
   induction l with
   |nil=>intro us hu;cases us<;>simp_all
   |cons x r ih =>
    intro us hu;cases us with
    |nil=>simp at hu
    |cons u us =>
     simp only[List.map_cons,List.cons.injEq] at hu ⊢;exact⟨hf.eval hu.1,ih us hu.2⟩
  exact key _ _ Y
 obtain⟨fn,tmps,assign,body,hy,hR⟩:=k (m-1) B w ha;rw[Oper.semAt_eq _ _ _ (λc e=>by rw[J] at e;cases e)]
 rw[show (execOp a.eval o).run P w= .ok (.round l fn tmps assign body) w by
  have h1:(invoke (.fn (.yield l) #[]) vs.toArray).run P w= .ok (.round l fn tmps assign body) w:=by rw[<-hy];rfl
  simp[execOp,J,resolve,hf.eval U,Deferred.ofValue,I,h1]]
 simp only[Oper.uponIn];refine⟨λh=>by simp[FW,Fence.wide] at h,hR.mono λe w' ⟨h',ab,v,he,hp⟩=>?_⟩;subst he;exact next v h' hp m B _ w' (by rw[Z];exact hf.put (dst:=some d) hd v) ab Q hN hX
end
theorem nX.of {args:Array Value}{ae ad ac:Nat}{J I:Array Oper}(hl:eG h l r) (ak:r.state= .ready) (ag:args.size=r.params.size)
 (ht:Fits n ρ { tmps:=(r.params.zip args).foldl (λtmps (t,a)=>tmps.setIfInBounds t a) r.tmps,defers:=[] }) (ar:r.assign= .region ae J false) (ap:r.body= .block ac (.region ad I false))
 (walk:iF P (some l) n J 0 ρ h (λρ1 h1=>eG h1 l r/\iF P (some l) n I 0 ρ1 (fk h1 l (.loop { r with state:=.busy })) (λ_ h2=>∃r2,eG h2 l r2/\Φ (.bool true) (fk h2 l (.loop { r2 with state:=.ready,pending:=none }))) (λ_ _=>False)) (λ_ _=>False)) :
 nX P l args h (bK Φ):=by
 intro m B w ha;have al:w.heap[l]? =some (.loop r):=by rw[ha.heap];exact hl
 refine⟨_,_,_,_,run_yield al ag,roundIn_of_wpIn trivial ?_⟩;rw[ar,ap];refine wpIn_region ?_;refine walk m B _ w ht ha _ ?_ (λ_ _ _ _ _ _ k=>k.elim);rintro ρ1 h1 a1 w1 ao Z ⟨an,U⟩;have ab:w1.heap[l]? =some (.loop r):=by rw[Z.heap];exact an
 refine⟨_,run_beginRound ab ak,?_⟩;refine wpIn_block (wpIn_region ?_);refine U m B a1 _ ao (Z.fk l _) _ ?_ (λ_ _ _ _ _ _ k=>k.elim);rintro ρ2 h2 a2 w2 hf2 Y ⟨r2,am,hΦ⟩;have aa:w2.heap[l]? =some (.loop r2):=by rw[Y.heap];exact am
 exact⟨_,_,run_endRound none aa,_,Y.fk l _,_,rfl,hΦ⟩
theorem Dy {tmps:Array Value}{p1 p2:Nat}{v1 v2:Value}(I:Fits n ρ { tmps:=tmps,defers:=[] }) (h1:Nat.blt p1 n=true) (J:Nat.blt p2 n=true) :
 Fits n ((p2,v2)::(p1,v1)::ρ) { tmps:=((#[p1,p2]:Array Nat).zip #[v1,v2]).foldl (λtmps (t,a)=>tmps.setIfInBounds t a) tmps,defers:=[] }:=by
 have:=(I.put (dst:=some p1) h1 v1).put (dst:=some p2) J v2;simpa [Act.put,Env.put] using this
section
variable {P:Program}{f:FuncId}{fn:Func}{k:List It}{ρ:Env}{h:aq}{R:Ending->aq->Prop}{p:List Nat}
theorem G.NZ (Y:P.funcs[f]? =some fn) (hk:kind (Lw.sub (ax fn) p)=5)
 (next:iF P none fn.ntmps (opsOf (Lw.sub (ax fn) p)) 0 ρ h (λρ' h'=>G P f fn k ρ' h' R) (λJ h'=>R (.panicked J) h')):G P f fn (.code p::k) ρ h R:=by
 refine vY (λB a w hf ha=>?_) Y;cases hc:Lw.sub (ax fn) p<;>simp[hc,kind] at hk;rename_i id ops d;cases d<;>simp at hk;rw[hc] at next
 refine(wpIn_wide (n:=0)).1 (wpIn_region ?_)
 have:=next 0 B a w hf ha (λe U w'=>match e with
  |.normal=>∃ρ' h',Fits fn.ntmps ρ' U/\At B h' w'/\G P f fn k ρ' h' R
  |.panic J=>U.defers=[]/\∃h',At B h' w'/\R (.panicked J) h'
  |_=>False) (λρ' h' U w' f' I hn=>⟨ρ',h',f',I,hn⟩) (λJ h' U w' hd I Z=>⟨hd,h',I,Z⟩)
 rw[List.drop_zero] at this;exact this
abbrev rf (b:Nat):List Deferred:=[{ target:=.collected b,args:= #[] }]
def nD (fid:FuncId) (tmps:Array Value) (ps:Array Tmp) (assign body:Code) (b:Nat):Loop:= { state:=.ready,pending:=none,fn:=fid,tmps:=tmps,params:=ps,assign:=assign,body:=body,defers:=b }
theorem vj {g:Operand}{ps:Array Tmp}{assign body:Code}{f':FuncId}{J:Func}{caps:Array Value}(hk:Lw.sub (ax fn) p= .rangeFunc g ps assign body) (hg:bp ρ g=some (.func (.func f') #[] caps))
 (ac:P.funcs[f']? =some J) (a6:J.body.isSome=true) (ab:(J.name == "runtime.NumGoroutine")=false)
 (Y:∀I tmps,Fits fn.ntmps ρ { tmps:=tmps,defers:=[] }->au P f' (#[.func (.yield (h.size+1)) #[] #[]]++caps) ((h.push (.deferred (some []))).push (.loop (nD I tmps ps assign body h.size)))
  (bK λ_ h'=>∃r,eG h' (h.size+1) r/\r.state≠ .busy/\r.pending=none/\GD P (rf h.size) f fn k ρ (fk h' (h.size+1) (.loop { r with state:=.exhausted })) R)):G P f fn (.code p::k) ρ h R:=by
 intro B a w hf Z b hb an cs
 let Q:Exit->Act->World->Prop:=λe a' w'=>match e with
  |.normal=>∃h',n8 (rf h.size) fn.ntmps ρ a'/\At B h' w'/\GD P (rf h.size) f fn k ρ h' R
  |_=>False
 have hw:(Code.rangeFunc g ps assign body).wp P Q a w:=by
  refine(wpIn_wide (n:=0)).1 (wpIn_rangeFunc λI _=>?_);have a1:J.body≠none:=by intro aw;simp[aw] at a6
  have aa:¬J.name= "runtime.NumGoroutine" :=by simpa using ab
  have ap:Fits fn.ntmps ρ { tmps:=a.tmps,defers:=[] }:=⟨hf.size,hf.ok,rfl⟩
  have a7:At B ((h.push (.deferred (some []))).push (.loop (nD I a.tmps ps assign body h.size))) ((w.alloc (.deferred (some []))).alloc (.loop (nD I a.tmps ps assign body w.heap.size))):=by
   refine⟨?_,Z.os,Z.tape,Z.output⟩
   show ((w.heap.push _).push _)=_
   rw[Z.heap]
  let W1:World:=(w.alloc (.deferred (some []))).alloc (.loop (nD I a.tmps ps assign body w.heap.size))
  refine⟨w.heap.size+1,rf w.heap.size,W1,{ target:=.fn (.func f') caps,args:= #[.func (.yield (w.heap.size+1)) #[] #[]] },W1,f',#[.func (.yield (w.heap.size+1)) #[] #[]]++caps,W1,run_enterLoop_outer I a.tmps ps assign body,?_,λ_ _=>trivial,?_,λh=>by simp[Fence.wide] at h,?_⟩
  · have ao:a.eval g= .func (.func f') #[] caps:=hf.eval hg;have ar:∀v,a.eval (.const v)=v:=λ_=>rfl
    simp[resolve,ao,Deferred.ofValue,ar]
  · simp[invoke,callFunc,ac,aa,a1]
  · refine Dx (ro:=none) ((?_:Calls P f' (#[.func (.yield (w.heap.size+1)) #[] #[]]++caps) ((w.alloc (.deferred (some []))).alloc (.loop (nD I a.tmps ps assign body w.heap.size))) _));have hc:=Y I a.tmps ap B _ a7;rw[<-Z.heap] at hc;refine hc.mono λe w3 he=>?_
    obtain⟨h3,ae,v,rfl,r,hl,al,ak,U⟩:=he;have am:w3.heap[w.heap.size+1]? =some (.loop r):=by rw[ae.heap];exact hl
    refine⟨r.pending,_,run_endLoop am al,?_⟩;split
    · refine⟨_,⟨hf.size,hf.ok,?_⟩,ae.fk _ _,by rw[<-Z.heap];exact U⟩
      show rf w.heap.size++a.defers=rf h.size
      rw[hf.nd,Z.heap];rfl
    · rename_i hc;rw[ak] at hc;cases hc
 obtain⟨e,a',w',hq,ad⟩:=hw b (k.map (aH (ax fn))) cs;have hit:(It.code p::k).map (aH (ax fn))=Item.code (Code.rangeFunc g ps assign body)::k.map (aH (ax fn)):=by simp[aH,hk]
 rw[hit];cases e with
 |normal =>
  obtain⟨h',a_,ba,U⟩:=hq;obtain⟨e,ag,fr,a8,h1,h2,h3,h4,h5⟩:=U B a' w' a_ ba b hb an cs;exact⟨e,ag,fr,a8,h1,h2,.of_steps ad h3,h4,h5⟩
 |panic ch=>exact hq.elim
 |exit id=>exact hq.elim
 |goto l=>exact hq.elim
 |ret=>exact hq.elim
 |outgrown=>exact hq.elim
theorem GD.FK {U:Nat}{vs:List Value}(Z:P.funcs[f]? =some fn) (hk:kind (Lw.sub (ax fn) p)=4) (hm:h[U]? =some (.deferred (some []))) (hr:gq ρ fn.results.toList=some vs) (hR:R (.returned (packed vs)) (fk h U (.deferred none))):GD P (rf U) f fn (.code p::k) ρ h R:=by
 intro B a w hf ha b hb Y cs
 have J:Go.step P (lone (b.at a ((It.code p::k).map (aH (ax fn)))) cs w)= .next (lone { b.at a ((It.code p::k).map (aH (ax fn))) with mode:=.returning } cs w):=by
  simp only[List.map_cons,aH];cases hc:Lw.sub (ax fn) p<;>simp[hc,kind] at hk
  · rename_i d;cases d<;>simp at hk
  · exact step_ret
 have I:(Instr.takeDeferred U).run P w= .ok [] (w.putObj U (.deferred none)):=run_takeDeferred (by rw[ha.heap];exact hm);have h2:=step_collected (P:=P) (fr:= { b.at a ((It.code p::k).map (aH (ax fn))) with mode:=.returning }) (cs:=cs) (by simp) (hf.nd:_=_) rfl I;have hz:=hf.zero;exact⟨.returned (packed vs),_,_,_,ha.fk U _,hR,.head J (.one h2),hb,rfl,rfl,Y,fn,(show P.funcs[b.fn]? =some fn by rw[hb];exact Z),oQ hz _ hr⟩
end
theorem GD.pL {D:List Deferred}{f:FuncId}{fn:Func}{k:List It}{R:Ending->aq->Prop}{id:Nat}(next:GD P D f fn k ρ h R):GD P D f fn (.blk id::k) ρ h R :=
 B5 (λ_ _ _ _=>step_inBlock) next
def QA:Code->Code|.rangeFunc _ _ a _=>a|c=>c
def Qz:Code->Code|.rangeFunc _ _ _ b=>b|c=>c
theorem suff {p q:Prop}(h:p) (k:p->q):q:=k h
theorem jR {P:Program}{ρ:Env}{h:aq}{dst:Option Nat}{ty:TypeId}{pos:String}{after:Array Edge}{guard:Option (Nat×Bool)}{g:Fn}{xs:Array Operand}{vs:List Value}(J:xs.toList.map (bp ρ)=vs.map some) :
 az P ⟨dst,.makeFunc g #[] xs,ty,pos,after,guard⟩ ρ h (.func g #[] vs.toArray):=by
 intro _ B a w Y _
 have I:xs.map a.eval=vs.toArray:=by
  apply Array.ext'
  simp only[Array.toList_map]
  have key:∀(l:List Operand) (us:List Value),l.map (bp ρ)=us.map some->l.map a.eval=us:=by
   intro l
   induction l with
   |nil=>intro us hu;cases us<;>simp_all
   |cons x r U =>
    intro us hu;cases us with
    |nil=>simp at hu
    |cons u us =>
     simp only[List.map_cons,List.cons.injEq] at hu ⊢;exact⟨Y.eval hu.1,U us hu.2⟩
  exact key _ _ J
 simp[execOp,Instr.makeFunc,I]
end
end Go.Lw
namespace Go.Proofs.YtnjahnbpnpkmhaaGreatDoor
open Go.Proofs.Tryz
open Go Go.Lw
set_option maxRecDepth 20000 set_option maxHeartbeats 4000000
section
variable {h:aq}{O:Nat->Prop}{v:Value}{nb st:Nat}{ss:List bL}
def eO (n:Nat):Value:=.int .i64 (n:Nat)
def jy:gW Nat:=.flat eO λ_=>rfl
def GF (k s:Nat) (v:Value) (r:Nat):List Value:=[.int .i64 (k:Nat),dW s 0,dW s 1,dW s 2,dW s 3,v,.int .i64 (r:Nat)]
def Kh (h:aq) (O:Nat->Prop) (cs:List Value) (x:bL):Prop:=∃v,cs=GF x.kind x.set v x.rule/\aL jy h O v x.to
theorem aL.JB {α:Type}{e:gW α}{xs:List α}(k:aL e h O v xs):v.oneCell'=true:=by
 obtain⟨oa,n,c,rfl,_⟩:=k;rfl
def Hy:gW bL:=⟨7,by decide,Kh,λh=>by obtain⟨v,rfl,_⟩:=h;rfl,λh=>by
 obtain⟨v,rfl,hv⟩:=h;intro u hu;simp[GF,dW] at hu
 rcases hu with rfl|rfl|rfl|rfl|rfl|rfl|rfl<;>first|rfl|exact aL.JB hv,λh m=>by
 obtain⟨v,hc,hv⟩:=h;exact⟨v,hc,hv.mv m⟩⟩
structure cv (h:aq) (O:Nat->Prop) (nb:Nat) (v:Value) (ss:List bL) (st:Nat):Prop where
 blk:aC h nb 99 [v,.int .i64 (st:Nat)]
 row:cH Hy (λb=>b=nb\/O b) h (nb+1) 111 v ss
abbrev fm (nb:Nat) (v:Value):Nat->Prop:=λb=>b=nb\/bU v.ownBlock b
theorem cv.own (k:cv h O nb v ss st):∀b,v.ownBlock=some b->nb<b/\b<h.size:=λb I=>by
 obtain⟨css,_,J,_⟩:=k.row;have:=J.lt I;omega
theorem cv.ext {M:Nat->Prop}{O O':Nat->Prop}{h h':aq}{nb:Nat}{v:Value}{ss:List bL}{st:Nat}(k:cv h O nb v ss st) (e:Ext M h h') (J:¬M nb) (I:∀b,v.ownBlock=some b->¬M b) (Z:∀b,b<h.size->M b->O b) (Y:∀b,b<h.size->O' b->O b):cv h' O' nb v ss st :=
 ⟨k.blk.ext e J,k.row.kU e I (λb U hm=>.inr (Z b U hm)) (λb U k=>k.imp id (Y b U))⟩
theorem cv.ah {O':Nat->Prop}{h':aq}(k:cv h O nb v ss st) (e:aj h h') (I:∀b,b<h.size->O' b->O b):cv h' O' nb v ss st:=k.ext e (λk=>k) (λ_ _ k=>k) (λ_ _ k=>k.elim) I
theorem HP {w:Value}{x:bL}(hn:cv h O nb v ss st) (_hO:∀b,O b->b<h.size) (hx:Kh h (λb=>fm nb v b\/O b) (GF x.kind x.set w x.rule) x) (hl:ss.length<=1000000) :
 au prog 43 #[.pointer (some ⟨nb,0,none⟩),.agg (GF x.kind x.set w x.rule).toArray] h (bK λr h'=>∃v',r= .int .i64 (ss.length:Nat)/\cv h' O nb v' (ss++[x]) st/\Ext (fm nb v) h h'/\(∀b,v'.ownBlock=some b->v.ownBlock=some b\/h.size<=b)):=by
 have hw1:∀u∈GF x.kind x.set w x.rule,u.oneCell'=true:=Hy.one hx;refine bJ ?_;refine af ?_;refine xo rfl (mh) ?_;rintro _ h1 ⟨rfl,hk1,he1,hz1⟩;have hk1:aC h1 h.size 111 (GF x.kind x.set w x.rule):=hk1;have hn1:=hn.ah (O':=O) he1 (λ_ _ k=>k);obtain⟨css,hc1,hc2,hc3⟩:=id hn1.row;have hown:=hn1.own;have hnlt:=hn1.blk.lt;have hnz:=hn.blk.lt;have hnM:¬(bU v.ownBlock nb\/Array.size h1<=nb):=by rintro(k|k);(have:=hown nb k.symm;omega);omega
 have hkM:¬(bU v.ownBlock h.size\/Array.size h1<=h.size):=by rintro(k|k);(have:=hn.own _ k.symm;omega);omega
 refine af ?_;refine jK 11 (λb=>bU v.ownBlock b\/Array.size h1<=b) (λi=>Nat.blt i 10) ?_;refine aF 0 ?_;refine aF 1 ?_;refine aF 2 ?_;refine aF 3 ?_;refine bq 4 rfl (λh' e=>aA rfl (e.cell hnM (hn1.blk.cell (i:=0) rfl))) ?_;refine bq 5 rfl (λh' e=>cj rfl (e.rowAt hkM hk1.row)) ?_;refine cV 6 rfl (lg) ?_;rintro _ _ ⟨rfl,rfl⟩;refine⟨λ_=>by first|exact Ext.push _ _ _|assumption,?_⟩;refine cV 7 rfl (aV.dA underlying97 H.L8 rfl rfl (hc2) rfl rfl (hw1) (by omega) (by decide) (by omega)) ?_;rintro v2 h2 ⟨ho2,hx2,hx2',hv2⟩;refine⟨λ_=>hx2'.mono (λ_ _ k=>.inl k),?_⟩;obtain⟨oa2,c2,rfl,_⟩:=ho2.open;refine H8 8 ?_;refine aF 9 ?_;refine gU 10 rfl (iG rfl rfl ((hn1.blk.ext hx2 (λk=>by have:=hown nb k.symm;omega)))) ?_;rintro _ h3 ⟨rfl,hk3,hx3,hz3⟩;refine⟨nofun,?_⟩;refine fV ?_;refine af ?_;have hxs:Hy.R h1 (λb=>bU v.ownBlock b\/b=nb\/O b) (GF x.kind x.set w x.rule) x:=Hy.mv hx ⟨he1.size,λb hb hn=>⟨he1.block b hb (λk=>k),λk=>hn (by rcases k with k|k|k;(exact .inl (.inr k));(exact .inl (.inl k));exact .inr k)⟩⟩;have hrow2:cH Hy (λb=>b=nb\/O b) h2 (nb+1) 111 (.slice oa2 (ss.length+1) c2) (ss++[x]):=cH.eC hc1 hc3 ho2 hx2 hv2 hxs;have hrow3:cH Hy (λb=>b=nb\/O b) h3 (nb+1) 111 (.slice oa2 (ss.length+1) c2) (ss++[x]):=hrow2.kU hx3 (λb hb (k:b=nb)=>by have:=hv2 b hb;rcases this with k'|k';(have:=hown b k';omega);omega) (λb _ k=>.inl k) (λb _ k=>k);have hk3:aC h3 nb 99 [.slice oa2 (ss.length+1) c2,.int .i64 (st:Nat)]:=hk3;refine xp rfl (aA rfl (hk3.cell (i:=0) rfl)) ?_;refine af ?_;refine aP ?_;refine⟨_,rfl,_,?_,⟨hk3,hrow3⟩,⟨by have:=he1.size;have:=hx2.size;omega,λb hb hn=>by rw[hx3.block b (by have:=hx2.size;omega) (λk=>hn (.inl k)),hx2.block b (by omega) (λk=>hn (.inr k)),he1.block b hb (λk=>k)]⟩,λb hb=>?_⟩
 · show Value.int _ _=_
   congr 1;omega
 · rcases hv2 b hb with k|k
   · exact .inl k
   · exact .inr (by omega)
theorem vE {l cap:Nat}{oa:Option Addr}{n c:Nat}{J:Nat->aq->Prop}(hn:n<=1000000)
 (I:∀j h,J j h->cellAt h ⟨cap,0,none⟩=some (.slice oa n c)) (hy:∀j h,J (j+1) h->j<n->∃(b o k s:Nat) (w:Value),oa=some ⟨b,o,none⟩/\Lw.rowAt h b (o+j*6) (bP k s w) /\
  nX prog l #[.int .i64 (j:Nat),.agg (bP k s w).toArray] h (bK λr h'=>r= .bool true/\J j h')) (h0:J n h) :
 au prog 117 #[.func (.yield l) #[] #[],.pointer (some ⟨cap,0,none⟩)] h (bK λ_ h'=>J 0 h'):=by
 refine bJ ?_;refine af ?_;refine xp rfl (aA rfl (I _ _ h0)) ?_;refine af ?_;refine fK (σ:=Nat) (λj=>[(3,.int .i64 ((j:Int)-1))]) (λj h'=>J j h'/\j<=n) (λj=>j) (n) ⟨h0,Nat.le_refl _⟩ rfl ?_;rintro j h1 ⟨hJ,hj⟩ ih;refine af ?_;refine aN (λaa=>?_) (λaa=>?_)
 · obtain⟨i,rfl⟩:∃i,j=i+1:=⟨j-1,by omega⟩
   obtain⟨b,o,k,s,w,ha,U,Y⟩:=hy i h1 hJ (by omega);have Z:((i+1:Nat):Int)-1=((i:Nat):Int):=by omega
   rw[Z];refine me rfl (iC rfl (G.block rfl rfl (iC rfl (G.NZ func117 rfl (iF.cC rfl rfl rfl rfl rfl (fu rfl) (iF.cC rfl rfl rfl rfl rfl (fu rfl) (iF.cC rfl rfl rfl rfl rfl (eB H.Mg rfl (I _ _ hJ)) ?_)))))));refine iF.cC rfl rfl rfl rfl rfl (fu rfl) (iF.cC rfl rfl rfl rfl rfl (az.iS underlying103 H.oH rfl rfl i rfl ha (by omega)) (iF.cC rfl rfl rfl rfl rfl (az.kD H.Au H.oH rfl U (by first|rfl|(simp;done)|(simp;omega))) (Av (vs:=[_,_]) rfl rfl rfl rfl rfl rfl rfl (Y) ?_)));rintro _ h2 ⟨rfl,ab⟩;refine iF.cC rfl rfl rfl rfl rfl (az.MH rfl) (mT rfl (dB rfl (by decide) ?_));refine af ?_;exact ih i ⟨ab,by omega⟩
 · obtain rfl:j=0:=by omega
   refine af ?_;refine D4 ?_;exact⟨_,rfl,hJ⟩
theorem yB (v:Value) (J:v.oneCell'=true):au prog 79 #[v] h (bK λr h'=>r= .func (.func 117) #[] #[.pointer (some ⟨h.size,0,none⟩)]/\h'=h.push (.cells #[v] 103)):=by
 have I:v.cells= #[v]:=by cases v<;>simp[Value.oneCell'] at J<;>rfl
 refine bJ ?_;refine af ?_;refine xo rfl (B2 rfl) ?_;rintro _ _ ⟨rfl,rfl⟩;refine af ?_;refine xp rfl (jR (vs:=[_]) rfl) ?_;refine af ?_;refine aP ?_;exact⟨_,rfl,rfl,by rw[I]⟩
end
end Go.Proofs.YtnjahnbpnpkmhaaGreatDoor
namespace Go.Proofs.YtnjahnbpnpkmhaaGreatDoor
open Go Go.Lw
set_option maxRecDepth 20000
section
variable {O:Nat->Prop}{nb:Nat}{h h':aq}{v:Value}
structure Nx (O:Nat->Prop) (nb:Nat) (h:aq) (v:Value) (h':aq) (v':Value):Prop where
  ext:Ext (λb=>fm nb v b\/O b) h h'
  own:∀b,v'.ownBlock=some b->v.ownBlock=some b\/h.size<=b
theorem Nx.refl {O:Nat->Prop}{nb:Nat}{h:aq}{v:Value}:Nx O nb h v h v:=⟨Ext.refl _ _,λ_ k=>.inl k⟩
theorem Nx.Nh (e:aj h h'):Nx O nb h v h' v:=⟨e.mono λ_ _ k=>k.elim,λ_ k=>.inl k⟩
theorem Nx.mono {O O':Nat->Prop}{nb:Nat}{h h':aq}{v v':Value}(k:Nx O nb h v h' v') (J:∀b,b<h.size->O b->O' b):Nx O' nb h v h' v':=⟨k.ext.mono λb I k=>k.imp id (J b I),k.own⟩
theorem Nx.trans {O':Nat->Prop}{h1 Z:aq}{v1 v2:Value}(k:Nx O nb h v h1 v1) (k':Nx O' nb h1 v1 Z v2) (hO:∀b,b<h.size->O' b->O b):Nx O nb h v Z v2:=by
  refine⟨⟨Nat.le_trans k.ext.size k'.ext.size,λb U Y=>?_⟩,λb U=>?_⟩
  · rw[k'.ext.block b (Nat.lt_of_lt_of_le U k.ext.size) ?_,k.ext.block b U Y];rintro((J|J)|J)
    · exact Y (.inl (.inl J))
    · rcases k.own b J.symm with I|I
      · exact Y (.inl (.inr I.symm))
      · omega
    · exact Y (.inr (hO b U J))
  · have:=k.ext.size
    rcases k'.own b U with I|I
    · exact k.own b I
    · exact .inr (by omega)
theorem Nx.mv {v':Value}(k:Nx O nb h v h' v'):Mv (λb=>fm nb v b\/O b) (λb=>fm nb v' b\/O b) h h' :=
  ⟨k.ext.size,λb Y J=>⟨k.ext.block b Y J,by
    rintro((I|I)|I)
    · exact J (.inl (.inl I))
    · rcases k.own b I.symm with U|U
      · exact J (.inl (.inr U.symm))
      · omega
    · exact J (.inr I)⟩⟩
theorem Nx.Ni {v':Value}(k:Nx (λ_=>False) nb h v h' v'):Mv (fm nb v) (fm nb v') h h' :=
  ⟨k.ext.size,λb Y J=>⟨k.ext.block b Y (λk=>k.elim J id),λI=>by
    rcases I with I|I
    · exact J (.inl I)
    · rcases k.own b I.symm with U|U
      · exact J (.inr U.symm)
      · omega⟩⟩
def Lv (O:Nat->Prop) (nb:Nat) (h:aq) (v:Value) (st:Nat) (out:List bL×Nat) (r:Value) (h':aq):Prop:=∃v',r= .int .i64 (out.2:Nat)/\cv h' O nb v' out.1 st/\Nx (λ_=>False) nb h v h' v'
def Ko (n:Nat):Prop:=∀{x:Nd}{h:aq}{O:Nat->Prop}{nb:Nat}{v w:Value}{ss:List bL}{st to:Nat},js x<=n->cv h O nb v ss st->(∀b,O b->b<h.size)->aI h (fm nb v) (bP x.kind x.set w) x->lu x=true->ss.length+js x<=1000000 ->
  au Tryz.prog 42 #[.pointer (some ⟨nb,0,none⟩),.agg (bP x.kind x.set w).toArray,.int .i64 (to:Nat)] h (bK (Lv O nb h v st (lay x ss to)))
theorem BW {w:Value}{ss:List bL}{st:Nat}{x:bL}(Z:cv h O nb v ss st) (hO:∀b,O b->b<h.size) (U:Kh h (λb=>fm nb v b\/O b) (GF x.kind x.set w x.rule) x) (hl:ss.length<=1000000) :
    au Tryz.prog 43 #[.pointer (some ⟨nb,0,none⟩),.agg (GF x.kind x.set w x.rule).toArray] h (bK (Lv O nb h v st (ss++[x],ss.length))) :=
  (HP Z hO U hl).mono λe h' r=>by
    obtain⟨u,he,v',hu,J,I,Y⟩:=r;exact⟨u,he,v',hu,J,I.mono λ_ _ k=>.inl k,Y⟩
theorem JN (i:Nat):dW 0 i= .int .u64 0:=by simp[dW,zE]
theorem pO {w:Value}{ss:List bL}{st:Nat}{to:List Nat}(J:cv h O nb v ss st) (U:∀b,O b->b<h.size) (I:aL jy h (λb=>fm nb v b\/O b) w to) (hl:ss.length<=1000000) :
    au Tryz.prog 43 #[.pointer (some ⟨nb,0,none⟩),.agg #[.int .i64 0,.int .u64 0,.int .u64 0,.int .u64 0,.int .u64 0,w,.int .i64 0]] h (bK (Lv O nb h v st (ss++[⟨0,0,to,0⟩],ss.length))):=by
  have h1:=BW (x:=⟨0,0,to,0⟩) J U ⟨w,rfl,I⟩ hl;simp only[GF,JN] at h1;exact h1
theorem Q2 (t:TypeId) (a:Nat) (I:¬O h.size):aL jy (h.push (.cells #[.int .i64 (a:Nat)] t)) O (.slice (some ⟨h.size,0,none⟩) 1 1) [a]:=aL.kC (e:=jy) (cs:=[eO a]) rfl I
theorem PB (t:TypeId) (a b:Nat) (U:¬O h.size):aL jy (h.push (.cells #[.int .i64 (a:Nat),.int .i64 (b:Nat)] t)) O (.slice (some ⟨h.size,0,none⟩) 2 2) [a,b] :=
  ⟨_,2,2,rfl,rfl,Nat.le_refl _,by simp[maxLen],λi x I=>by
    refine⟨h.size,0,[eO x],rfl,U,?_,rfl⟩;have hr:=ie h [.int .i64 (a:Nat),.int .i64 (b:Nat)] t;intro j u J;have h0:j=0:=by have:=(List.getElem?_eq_some_iff.1 J).1;simp at this;omega
    subst h0;simp only[List.getElem?_cons_zero,Option.some.injEq] at J;subst J
    match i with
    | 0=>simp at I;subst I;exact hr 0 _ rfl
    | 1=>simp at I;subst I;exact hr 1 _ rfl
    |i+2=>simp at I⟩
theorem uO:∀(l:List Nd) (x:Nd) (ss:List bL) (to:Nat),aY (l++[x]) ss to=((lay x (aY l ss to).1 to).1,(aY l ss to).2++[(lay x (aY l ss to).1 to).2])
  | [],x,ss,to=>by simp[aY]
  |y::l,x,ss,to=>by
    rw[List.cons_append,aY,uO l x,aY];simp
theorem uN {l:List Nd}{i:Nat}{x:Nd}(I:l[i]? =some x) (ss:List bL) (to:Nat):aY (l.take (i+1)) ss to=((lay x (aY (l.take i) ss to).1 to).1,(aY (l.take i) ss to).2++[(lay x (aY (l.take i) ss to).1 to).2]):=by
  rw[List.take_add_one,I,Option.toList_some,uO]
def LG (nb b5 cap d:Nat) (r0:Loop) (hL:aq) (v sl:Value) (O:Nat->Prop) (kids:List Nd) (ss:List bL) (st to j:Nat) (g:aq):Prop :=
  ∃v',eG g (d+1) r0/\g[d]? =some (.deferred (some []))/\aC g cap 103 [sl]/\cv g (λb=>O b\/(b5<=b/\b<hL.size)) nb v' (bC (kids.drop j) ss to).1 st /\
    aC g b5 3 [.int .i64 ((bC (kids.drop j) ss to).2:Nat)]/\Nx (λb=>b5<=b/\b<hL.size) nb hL v g v'
end
end Go.Proofs.YtnjahnbpnpkmhaaGreatDoor
namespace Go.Proofs.YtnjahnbpnpkmhaaGreatDoor
open Go.Proofs.Tryz
open Go Go.Lw
set_option maxRecDepth 20000 set_option maxHeartbeats 4000000
section
variable {h:aq}
theorem kk {k j:Nat}(h:¬((k:Nat):Int)=(j:Nat)):¬k=j:=λe=>h (by rw[e])
theorem Jr {n:Nat}(ih:Ko n):Ko (n+1):=by
 intro x h O nb v w ss st to hsz hn hO hx hw hl;obtain⟨k,s,kids⟩:=x;simp only[js] at hsz hl;have hown:=hn.own;have hnb:=hn.blk.lt;obtain⟨w',hw',hkids⟩:=hx.open;have hww:w=w':=by simpa [bP] using hw'
 subst hww
 show au _ _ #[_,.agg (bP k s w).toArray,_] h _
 replace hkids:aL mX h (fm nb v) w kids:=hkids;obtain⟨oa,kn,kc,rfl,hsl⟩:=hkids.open;refine bJ ?_;refine af ?_;refine xo rfl (mh) ?_;rintro _ h1 ⟨rfl,q3,e1,z1⟩;refine xo rfl (mh) ?_;rintro _ h2 ⟨rfl,q4,e2,z2⟩;refine xo rfl (mh) ?_;rintro _ h3 ⟨rfl,q5,e3,z3⟩;have q3:aC h1 h.size 70 [.pointer (some ⟨nb,0,none⟩)]:=q3;have q4:aC h2 h1.size 105 (bP k s (.slice oa kn kc)):=q4;have q5:aC h3 h2.size 3 [.int .i64 (to:Nat)]:=q5;have q3:=(q3.ah e2).ah e3;have q4:=q4.ah e3;have e03:aj h h3:=(e1.trans e2).trans e3;have hn3:cv h3 O nb v ss st:=hn.ah e03 (λ_ _ k=>k);have hO3:∀b,O b->b<h3.size:=λb hb=>by have:=hO b hb;have:=e03.size;omega
 have nx3:Nx (λ_=>False) nb h v h3 v:=Nx.Nh e03;have hsl3:aL mX h3 (fm nb v) (.slice oa kn kc) kids:=hkids.mv nx3.Ni
 have hnew3:∀b,h3.size<=b->¬(fm nb v b\/O b):=by
  have hz:=e03.size;rintro b hb ((k1|k1)|k1)
  · omega
  · have:=hown b k1.symm;omega
  · have:=hO b k1;omega
 have hnM:∀b,h.size<=b->¬(fm nb v b\/False):=by
  rintro b hb ((k1|k1)|k1)
  · omega
  · have:=hown b k1.symm;omega
  · exact k1
 have hkn:kids.length=kn:=hsl.len;have hwl:ng kids=true:=by simp only[lu,Bool.and_eq_true] at hw;exact hw.2
 have hklen:=vP kids;refine af ?_;refine xp rfl (aA rfl (q4.cell (i:=0) rfl)) ?_;refine af ?_;refine aN (λh1k=>?_) (λh1k=>?_)
 · obtain rfl:k=1:=by omega
   have hlay:lay (.mk 1 s kids) ss to=(ss++[⟨1,s,[to],0⟩],ss.length):=by rw[lay];simp
   rw[hlay];refine af ?_;refine xp rfl (aA rfl (q3.cell (i:=0) rfl)) ?_;refine af ?_;refine xp rfl (cj rfl (q4.part 1 (ds:=[dW s 0,dW s 1,dW s 2,dW s 3]) (by intro j v hv;match j with| 0=>exact hv| 1=>exact hv| 2=>exact hv| 3=>exact hv|j+4=>simp at hv))) ?_;refine xp rfl (aA rfl (q5.cell (i:=0) rfl)) ?_;refine xo rfl (iD [_]) ?_;rintro _ _ ⟨rfl,rfl⟩;refine xp rfl (av (H.DS _ _ _ _ _ _ _ _) rfl) ?_;refine xo rfl (aE rfl (BW (O:=O) (x:=⟨1,s,[to],0⟩) (hn3.ah (Ext.push _ _ _) (λ_ _ k=>k)) (λb hb=>by have:=hO3 b hb;simp;omega) ⟨_,rfl,Q2 _ to (hnew3 _ (Nat.le_refl _))⟩ (by omega))) ?_;rintro _ h5 ⟨v',rfl,hn5,nx5⟩;refine af ?_;refine aP ?_;exact⟨_,rfl,v',rfl,hn5,(nx3.trans (Nx.Nh (Ext.push _ _ _)) (λ_ _ k=>k)).trans nx5 (λ_ _ k=>k)⟩
 · have h1k':¬k=1:=kk h1k;refine af ?_;refine aN (λh2k=>?_) (λh2k=>?_)
   · obtain rfl:k=2:=by omega
     have hlay:lay (.mk 2 s kids) ss to=bC kids ss to:=by rw[lay];simp
     rw[hlay];have hz0:=e03.size;refine af ?_;refine xp rfl (aA rfl (q4.cell (i:=5) rfl)) ?_;refine xo rfl (aE rfl (yB (.slice oa kn kc) rfl)) ?_;rintro _ h4 ⟨rfl,hh4⟩;have e4:aj h3 h4:=by rw[hh4];exact Ext.push _ _ _
     have q6:aC h4 h3.size 103 [.slice oa kn kc]:=by rw[hh4];exact Gm _ _ _
     have z4:h4.size=h3.size+1:=by rw[hh4];simp
     clear hh4;refine af ?_;refine vj rfl rfl func117 rfl (by decide +kernel) ?_;intro fid tmps hfits;obtain⟨r0,hr0⟩:∃r0,r0=nD fid tmps #[30,31] (QA (Lw.sub (ax f42) [0,1,0,0,1,1,1,0,1,0,1])) (Qz (Lw.sub (ax f42) [0,1,0,0,1,1,1,0,1,0,1])) h4.size:=⟨_,rfl⟩
     obtain⟨hL,hhL⟩:∃hL,hL=(h4.push (.deferred (some []))).push (.loop r0):=⟨_,rfl⟩
     suffices hmain:au prog 117 #[.func (.yield (h4.size+1)) #[] #[],.pointer (some ⟨h3.size,0,none⟩)] hL _ by rw[hhL,hr0] at hmain;exact hmain
     have hst:r0.state= .ready:=by rw[hr0];rfl
     have hpn:r0.pending=none:=by rw[hr0];rfl
     have hps:r0.params= #[30,31]:=by rw[hr0];rfl
     have htm:r0.tmps=tmps:=by rw[hr0];rfl
     have eL:aj h4 hL:=by rw[hhL];exact(Ext.push _ _ _).trans (Ext.push _ _ _)
     have hLz:hL.size=h4.size+2:=by rw[hhL];simp
     have hloop0:eG hL (h4.size+1) r0:=by
      have hz:h4.size+1=(h4.push (.deferred (some []))).size:=by simp
      rw[eG,hhL,hz];exact Array.getElem?_push_size
     have hdef0:hL[h4.size]? =some (.deferred (some [])):=by
      rw[hhL,(Ext.push (λ_=>False) (h4.push (.deferred (some []))) _).block h4.size (by simp) (λk=>k)];exact Array.getElem?_push_size
     clear hhL;have e0L:aj h hL:=(e03.trans e4).trans eL;have q3L:=(q3.ah e4).ah eL;have q5L:=(q5.ah e4).ah eL;have q6L:=q6.ah eL;have hnL:cv hL (λb=>O b\/(h2.size<=b/\b<hL.size)) nb v ss st:=hn.ah e0L (λb hb k=>k.elim id (λk=>by omega));have hkL:aL mX hL (λb=>fm nb v b\/(h2.size<=b/\b<hL.size)) (.slice oa kn kc) kids:=hkids.mv ⟨e0L.size,λb hb hn=>⟨e0L.block b hb (λk=>k),λk=>k.elim hn (λk=>by omega)⟩⟩;have hdropn:kids.drop kn=[]:=List.drop_of_length_le (by omega);have hJ0:LG nb h2.size h3.size h4.size r0 hL v (.slice oa kn kc) O kids ss st to kn hL:=⟨v,hloop0,hdef0,q6L,by rw[hdropn,bC];exact hnL,by rw[hdropn,bC];exact q5L,Nx.refl⟩
     have hvM:∀{v':Value}{g:aq},Nx (λb=>h2.size<=b/\b<hL.size) nb hL v g v'->∀b,h.size<=b->b<hL.size->¬fm nb v' b:=by
      rintro v' g nx b hb hb' (k1|k1)
      · omega
      · rcases nx.own b k1.symm with k2|k2
        · have:=hown b k2;omega
        · omega
     refine suff (p:=∀j g,LG nb h2.size h3.size h4.size r0 hL v (.slice oa kn kc) O kids ss st to (j+1) g->j<kn->∃(b o k s:Nat) (w:Value),oa=some ⟨b,o,none⟩/\Lw.rowAt g b (o+j*6) (bP k s w)/\nX prog (h4.size+1) #[.int .i64 (j:Nat),.agg (bP k s w).toArray] g (bK λr h'=>r= .bool true/\LG nb h2.size h3.size h4.size r0 hL v (.slice oa kn kc) O kids ss st to j h')) ?_ λhy=>?_
     · intro j g ⟨v',hlp,hdf,hcap,hng,hb5,nxg⟩ hj;obtain⟨x,hx⟩:∃x,kids[j]? =some x:=⟨_,List.getElem?_eq_getElem (by omega)⟩
       have hkg:=hkL.mv nxg.mv;obtain⟨oa',n',c',hv',_,_,_,hget⟩:=id hkg;cases hv';obtain⟨b,o,cs,ha,hob,hrow,hnd⟩:=hget j x hx;obtain⟨w2,rfl,-⟩:=hnd.open;refine⟨b,o,x.kind,x.set,w2,ha,hrow,?_⟩;have hcatd:=Dp hx ss to;have hszx:=Io hx;have hbl:=kH (kids.drop (j+1)) ss to;have hfit:=Dy (p1:=30) (p2:=31) (v1:=.int .i64 (j:Nat)) (v2:=.agg (bP x.kind x.set w2).toArray) hfits rfl rfl;rw[<-hps,<-htm] at hfit;have hvg:=hvM nxg;have hzg:=nxg.ext.size;have q3g:=q3L.ext nxg.ext (λk=>k.elim (hvM Nx.refl (v':=v) (g:=hL) _ (Nat.le_refl _) (by omega)) (λk=>by omega));refine nX.of hlp hst (by rw[hps];rfl) hfit ((congrArg Loop.assign hr0).trans rfl) ((congrArg Loop.body hr0).trans rfl) ?_;refine iF.HZ rfl rfl rfl rfl rfl (aV.BV H.LK) ?_;rintro _ g1 ⟨rfl,k8,e1',zz1⟩;refine iF.FN rfl rfl rfl rfl (aV.jZ H.oH rfl rfl k8 (by first|rfl|(simp;done)|(simp;omega)) (by first|decide|exact of_decide_eq_true rfl|(simp;done)|(simp;omega)) (aI.one hnd)) ?_;rintro _ g2 ⟨rfl,k8',e2',zz2⟩;refine mT rfl ?_;have e12:aj g g2:=e1'.only e2' (Nat.le_refl _);have k8':aC g2 g.size 105 (bP x.kind x.set w2):=k8';refine⟨(e12.block _ hlp.lt (λk=>k)).trans hlp,?_⟩;obtain⟨g3,hg3⟩:∃g3,g3=Lw.fk g2 (h4.size+1) (.loop { r0 with state:=.busy }):=⟨_,rfl⟩
       rw[<-hg3];have hlz:=hlp.lt;have hz2:=e12.size;have e23:Ext (λb=>b=h4.size+1) g2 g3:=by rw[hg3];exact Ext.fk _ _ _ rfl
       have hlp3:eG g3 (h4.size+1) { r0 with state:=.busy }:=by rw[eG,hg3];exact pY (by omega)
       have hz3:=e23.size;have e13:Ext (λb=>b=h4.size+1) g g3:=(e12.mono λ_ _ k=>k.elim).trans e23;have l3:¬h.size=h4.size+1:=by omega
       have l5:¬h2.size=h4.size+1:=by omega
       have l6:¬h3.size=h4.size+1:=by omega
       have l8:¬g.size=h4.size+1:=by omega
       have ld:¬h4.size=h4.size+1:=by omega
       have q33:=q3g.ext e13 l3;have b53:=hb5.ext e13 l5;have cap3:=hcap.ext e13 l6;have k83:=k8'.ext e23 l8;have hown':∀b,v'.ownBlock=some b->¬b=h4.size+1:=λb hb k=>hvg b (by omega) (by omega) (.inr hb.symm)
       have hn3g:cv g3 (λb=>O b\/(h2.size<=b/\b<hL.size)) nb v' (bC (kids.drop (j+1)) ss to).1 st:=hng.ext e13 (by omega) hown' (λb _ k=>.inr (by omega)) (λb _ k=>k);have hnd3:aI g3 (fm nb v') (bP x.kind x.set w2) x:=hnd.mv ⟨e13.size,λb hb hn=>⟨e13.block b hb (λk=>hn (.inr (by omega))),λk=>hn (.inl k)⟩⟩;refine iF.cC rfl rfl rfl rfl rfl (eB H.OM rfl (q33.cell (i:=0) rfl)) ?_;refine iF.cC rfl rfl rfl rfl rfl (az.kD H.Au H.oH rfl k83.row (by first|rfl|(simp;done)|(simp;omega))) ?_;refine iF.cC rfl rfl rfl rfl rfl (eB H.Nn rfl (b53.cell (i:=0) rfl)) ?_;refine iF.HZ rfl rfl rfl rfl rfl (kO (vs:=[_,_,_]) func42 rfl H.P6 rfl (au.HX (ih (x:=x) (O:=λb=>O b\/(h2.size<=b/\b<hL.size)) (to:=(bC (kids.drop (j+1)) ss to).2) (by omega) hn3g (λb hb=>by rcases hb with k|k;(have:=hO b k;omega);omega) hnd3 (rU hwl hx) (by omega)))) ?_;rintro _ g4 ⟨v4,rfl,hn4,nx4⟩;have hM4:∀b,h.size<=b->b<hL.size->¬(fm nb v' b\/False):=λb h1 h2 k=>k.elim (hvg b h1 h2) id
       have b54:=b53.ext nx4.ext (hM4 _ (by omega) (by omega));refine iF.FN rfl rfl rfl rfl (aV.oI H.mW rfl rfl b54 (by first|decide|exact of_decide_eq_true rfl|(simp;done)|(simp;omega)) rfl) ?_;rintro _ g5 ⟨rfl,b55,e5',zz5⟩;refine mT rfl ?_;have b55:aC g5 h2.size 3 [.int .i64 ((lay x (bC (kids.drop (j+1)) ss to).1 (bC (kids.drop (j+1)) ss to).2).2:Nat)]:=b55;have hz4:=nx4.ext.size;have nx45:Nx (λb=>h2.size<=b/\b<hL.size) nb g3 v' g5 v4:=⟨⟨by omega,λb hb hn=>by rw[e5'.block b (by omega) (λk=>hn (.inr (by omega))),nx4.ext.block b hb (λk=>hn (k.elim .inl (λk=>k.elim)))]⟩,nx4.own⟩
       have hlp5:eG g5 (h4.size+1) { r0 with state:=.busy }:=(hlp3.ext nx4.ext (hM4 _ (by omega) (by omega))).ext e5' (λk=>by omega);have hr2:({ ({ r0 with state:=.busy }:Loop) with state:=.ready,pending:=none }:Loop)=r0:=by cases r0;simp at hst hpn;simp[hst,hpn]
       refine⟨_,hlp5,rfl,?_⟩;rw[hr2];have e56:Ext (λb=>b=h4.size+1) g5 (Lw.fk g5 (h4.size+1) (.loop r0)):=Ext.fk _ _ _ rfl
       have hown4:∀b,v4.ownBlock=some b->¬b=h4.size+1/\¬b=h2.size:=λb hb=>by
        rcases nx4.own b hb with k|k
        · exact⟨hown' b k,λk'=>hvg b (by omega) (by omega) (.inr k.symm)⟩
        · omega
       have hdf5:g5[h4.size]? =some (.deferred (some [])):=by
        rw[e5'.block h4.size (by omega) (by omega),nx4.ext.block h4.size (by omega) (hM4 _ (by omega) (by omega)),e13.block h4.size (by omega) (by omega)];exact hdf
       have cap5:=(cap3.ext nx4.ext (hM4 _ (by omega) (by omega))).ext e5' (by omega);refine⟨v4,pY (by omega),by rw[e56.block h4.size (by omega) (by omega)];exact hdf5,cap5.ext e56 l6,?_,?_,?_⟩
       · rw[hcatd];have hn5:cv g5 (λb=>O b\/(h2.size<=b/\b<hL.size)) nb v4 (lay x (bC (kids.drop (j+1)) ss to).1 (bC (kids.drop (j+1)) ss to).2).1 st:=hn4.ext e5' (by omega) (λb hb=>(hown4 b hb).2) (λb _ k=>.inr (by omega)) (λ_ _ k=>k);exact hn5.ext e56 (by omega) (λb hb=>(hown4 b hb).1) (λb _ k=>.inr (by omega)) (λ_ _ k=>k)
       · rw[hcatd];exact b55.ext e56 l5
       · exact((nxg.trans ⟨e13.mono (λb _ k=>.inr (by omega)),λb k=>.inl k⟩ (λb _ k=>k)).trans nx45 (λb _ k=>k)).trans ⟨e56.mono (λb _ k=>.inr (by omega)),λb k=>.inl k⟩ (λb _ k=>k)
     · refine(vE (l:=h4.size+1) (cap:=h3.size) (n:=kn) (c:=kc) (J:=LG nb h2.size h3.size h4.size r0 hL v (.slice oa kn kc) O kids ss st to) (by omega) (λj g hJ=>by obtain⟨_,_,_,k,_⟩:=hJ;exact k.cell (i:=0) rfl) hy hJ0).mono λe g hJ=>?_
       obtain⟨u,rfl,v',hlp,hdf,hcap,hng,hb5,nxg⟩:=hJ;rw[List.drop_zero] at hng hb5;refine⟨_,rfl,r0,hlp,by rw[hst];decide,hpn,?_⟩;have hzg:=nxg.ext.size;have hlz:=hlp.lt;have e1:Ext (λb=>b=h4.size+1) g (Lw.fk g (h4.size+1) (.loop { r0 with state:=.exhausted })):=Ext.fk _ _ _ rfl;have b5e:=hb5.ext e1 (by omega);have hdfe:=(e1.block h4.size (by omega) (by omega)).trans hdf;have hvg:=hvM nxg;refine GD.pL ?_;refine rN rfl ?_;refine GD.mE func42 rfl ?_;refine kV.cC rfl rfl rfl rfl (eB H.Nn rfl (b5e.cell (i:=0) rfl)) ?_;refine kV.cC rfl rfl rfl rfl (az.assign rfl) ?_;refine mU rfl ?_;refine GD.sub (ρ':=[(0,_),(1,_),(2,_),(3,_),(4,_),(5,_),(6,_),(15,_),(16,_),(25,_),(29,_)]) ⟨rfl,rfl,rfl,rfl,rfl,rfl,rfl,rfl,rfl,rfl,rfl,trivial⟩ ?_;refine GD.FK func42 rfl hdfe rfl ?_;have e2:Ext (λb=>b=h4.size) (Lw.fk g (h4.size+1) (.loop { r0 with state:=.exhausted })) (Lw.fk (Lw.fk g (h4.size+1) (.loop { r0 with state:=.exhausted })) h4.size (.deferred none)):=Ext.fk _ _ _ rfl;have e12:Ext (λb=>b=h4.size+1\/b=h4.size) g _:=(e1.mono λ_ _ k=>.inl k).trans (e2.mono λ_ _ k=>.inr k);have hownv:∀b,v'.ownBlock=some b->¬(b=h4.size+1\/b=h4.size):=λb hb k=>hvg b (by omega) (by omega) (.inr hb.symm)
       refine⟨_,rfl,v',rfl,hng.ext e12 (by omega) hownv (λb _ k=>.inr (by omega)) (λb _ k=>.inl k),?_⟩;have nxe:Nx (λb=>h2.size<=b) nb h v _ v':=((Nx.Nh e0L).trans nxg (λb _ k=>k.1)).trans ⟨e12.mono (λb _ k=>.inr k),λb k=>.inl k⟩ (λb hb k=>by omega);exact nxe.mono (λb hb k=>by omega)
   · have h2k':¬k=2:=kk h2k;refine af ?_;refine aN (λh3k=>?_) (λh3k=>?_)
     · obtain rfl:k=3:=by omega
       have hlay:lay (.mk 3 s kids) ss to=((aY kids ss to).1++[⟨0,0,(aY kids ss to).2,0⟩],(aY kids ss to).1.length):=by rw[lay];simp
       rw[hlay];refine af ?_;refine xp rfl (aA rfl (q4.cell (i:=5) rfl)) ?_;refine af ?_;refine fK (σ:=Nat×Value) (λp=>[(9,p.2),(42,.int .i64 (p.1:Nat))]) (λp h'=>p.1<=kn/\∃v',cv h' (λb=>O b\/bU p.2.ownBlock b) nb v' (aY (kids.take p.1) ss to).1 st/\cH jy (λ_=>True) h' h3.size 3 p.2 (aY (kids.take p.1) ss to).2/\Nx (λ_=>False) nb h3 v h' v'/\(∀b,p.2.ownBlock=some b->v'.ownBlock≠some b)) (λp=>kn-p.1) ((0,.slice none 0 0)) ⟨Nat.zero_le _,v,by simpa [aY] using hn3.ah (Ext.refl _ _) (λb _ k=>k.elim id (λk=>by cases k)),by simpa [aY] using cH.nil jy (λ_=>True) h3 h3.size 3,Nx.refl,λb hb=>by cases hb⟩ rfl ?_;rintro⟨i,t9⟩ gh ⟨hi,v',hnH,htH,nxH,hdist⟩ ih2
       try dsimp only
       dsimp only at hi hnH htH nxH hdist;have hzH:=nxH.ext.size;have hz0:=e03.size;have q3H:=q3.ext nxH.ext (hnM _ (Nat.le_refl _));have q5H:=q5.ext nxH.ext (hnM _ (by omega));have hslH:aL mX gh (fm nb v') (.slice oa kn kc) kids:=hsl3.mv nxH.Ni;have ht9:∀b,t9.ownBlock=some b->h3.size<=b/\b<gh.size:=λb hb=>by obtain⟨_,_,k,_⟩:=id htH;exact k.lt hb
       have hlenT:(aY (kids.take i) ss to).2.length=i:=by rw[oX,List.length_take];omega
       refine af ?_;refine aN (λhlt=>?_) (λhlt=>?_)
       · have hik:i<kids.length:=by omega
         obtain⟨x,hx⟩:∃x,kids[i]? =some x:=⟨_,List.getElem?_eq_getElem hik⟩
         obtain⟨oa',n',c',hv',_,_,_,hget⟩:=id hslH;cases hv';obtain⟨b,o,cs,ha,hob,hrow,hnd⟩:=hget i x hx;obtain⟨w2,rfl,-⟩:=hnd.open;have hszx:=Im hx;have hbl:=fP (kids.take i) ss to
         iterate 4 refine aQ ?_
         refine cI ?_;refine xp rfl (bZ rfl rfl i rfl ha) ?_;refine xp rfl (cj rfl hrow) ?_;refine xo rfl (cL) ?_;rintro _ h5 ⟨rfl,q11,e5,z5⟩;refine aO rfl (aZ rfl rfl q11 (aI.one hnd)) ?_;rintro _ h6 ⟨rfl,q11',e6,z6⟩;have e56:aj gh h6:=e5.only e6 (Nat.le_refl _);have q11':aC h6 gh.size 105 (bP x.kind x.set w2):=q11';have hn6:cv h6 (λb=>O b\/bU t9.ownBlock b) nb v' (aY (kids.take i) ss to).1 st:=hnH.ah e56 (λ_ _ k=>k);have nx6:Nx (λ_=>False) nb gh v' h6 v':=Nx.Nh e56;have hz6:=e56.size;have hnd6:=hnd.mv nx6.Ni;refine af ?_;refine xp rfl (aA rfl ((q3H.ah e56).cell (i:=0) rfl)) ?_;refine xp rfl (cj rfl q11'.row) ?_;refine xp rfl (aA rfl ((q5H.ah e56).cell (i:=0) rfl)) ?_;refine xo rfl (aE rfl (ih (x:=x) (O:=λb=>O b\/bU t9.ownBlock b) (to:=to) (by omega) hn6 (λb hb=>by rcases hb with k|k;(have:=hO3 b k;omega);(have:=ht9 b k.symm;omega)) hnd6 (rU hwl hx) (by omega))) ?_;rintro _ h7 ⟨v7,rfl,hn7,nx7⟩
         have ht7:cH jy (λ_=>True) h7 h3.size 3 t9 (aY (kids.take i) ss to).2:=(htH.ah e56).kU nx7.ext (λb hb=>by
          rintro((k1|k1)|k1)
          · have:=ht9 b hb;omega
          · exact hdist b hb k1.symm
          · exact k1) (λ_ _ _=>trivial) (λ_ _ _=>trivial)
         obtain⟨css,hc1,hc2,hc3⟩:=id ht7;have hz7:=nx7.ext.size;refine xo rfl (iD [_]) ?_;rintro _ _ ⟨rfl,rfl⟩;refine xo rfl (vL rfl rfl hc2 rfl rfl) ?_;rintro t9' h8 ⟨ho8,hx8,-,hv8⟩;refine af ?_;have ht8:cH jy (λ_=>True) h8 h3.size 3 t9' ((aY (kids.take i) ss to).2++[(lay x (aY (kids.take i) ss to).1 to).2]):=cH.eC hc1 hc3 ho8 hx8 hv8 rfl
         have hn8:cv h8 (λb=>O b\/bU t9'.ownBlock b) nb v7 (lay x (aY (kids.take i) ss to).1 to).1 st:=hn7.ext hx8 (λk=>by have:=ht9 nb k.symm;omega) (λb hb k=>by
          rcases nx7.own b hb with k'|k'
          · exact hdist b k.symm k'
          · have:=ht9 b k.symm;omega) (λb _ k=>.inr k) (λb hb k=>k.imp id (λk=>by
            rcases hv8 b k.symm with k'|k'
            · exact k'.symm
            · omega))
         have hd8:∀b,t9'.ownBlock=some b->v7.ownBlock≠some b:=λb hb k=>by
          rcases hv8 b hb with k'|k'
          · rcases nx7.own b k with k2|k2
            · exact hdist b k' k2
            · have:=ht9 b k';omega
          · have:=(hn7.own b k).2;omega
         exact ih2 (i+1,t9') ⟨by show i+1<=kn;omega,v7,by rw[uN hx];exact hn8,by rw[uN hx];exact ht8,⟨⟨by have:=hx8.size;omega,λb hb hn=>by rw[hx8.block b (by omega) (λk=>by have:=ht9 b k.symm;omega)];exact((nxH.trans nx6 (λ_ _ k=>k)).trans nx7 (λ_ _ k=>k)).ext.block b hb hn⟩,((nxH.trans nx6 (λ_ _ k=>k)).trans nx7 (λ_ _ k=>k)).own⟩,hd8⟩
       · obtain rfl:i=kn:=by omega
         have hall:kids.take i=kids:=List.take_of_length_le (by omega);rw[hall] at hnH htH hlenT;have hbl:=fP kids ss to
         have hrd:aL jy gh (λb=>fm nb v' b\/O b) t9 (aY kids ss to).2:=htH.wO (λb hb=>by
          rintro((k1|k1)|k1)
          · have:=ht9 b hb;omega
          · exact hdist b hb k1.symm
          · have:=ht9 b hb;have:=hO3 b k1;omega) (λ_ _ _=>trivial)
         obtain⟨oa9,n9,c9,rfl,_⟩:=id hrd;refine af ?_;refine xp rfl (aA rfl (q3H.cell (i:=0) rfl)) ?_;refine af ?_;refine xp rfl (av (H.BT _ _ _) rfl) ?_;refine xo rfl (aE rfl (pO (O:=O) (hnH.ah (Ext.refl _ _) (λb _ k=>.inl k)) (λb hb=>by have:=hO3 b hb;omega) hrd (by omega))) ?_;rintro _ h5 ⟨v5,rfl,hn5,nx5⟩;refine af ?_;refine aP ?_;exact⟨_,rfl,v5,rfl,hn5,(nx3.trans nxH (λ_ _ k=>k)).trans nx5 (λ_ _ k=>k)⟩
     · have h3k':¬k=3:=kk h3k;refine af ?_;refine aN (λh6k=>?_) (λh6k=>?_)
       · obtain rfl:k=6:=by omega
         have hone:kids.length=1:=by simp[lu] at hw;exact hw.1
         obtain⟨x,rfl⟩:∃x,kids=[x]:=by match kids,hone with| [x],_=>exact⟨x,rfl⟩
         have hkn1:kn=1:=by simpa using hkn.symm
         have hszx:js x<=eR [x]:=by simp[eR]
         have hwx:lu x=true:=by simpa [ng] using hwl
         have hlay:lay (.mk 6 s [x]) ss to=((lay x ss to).1++[⟨0,0,[(lay x ss to).2,to],0⟩],(lay x ss to).1.length):=by rw[lay];simp[cy]
         rw[hlay];have hz0:=e03.size;obtain⟨oa',n',c',hv',_,_,_,hget⟩:=id hsl3;cases hv';obtain⟨b,o,cs,ha,hob,hrow,hnd⟩:=hget 0 x rfl;obtain⟨w2,rfl,-⟩:=hnd.open
         have hnM3:∀b,h.size<=b->b<h3.size->¬(fm nb v b\/h3.size<=b):=by
          rintro b hb hb' ((k1|k1)|k1)
          · omega
          · have:=hown b k1.symm;omega
          · omega
         have hbM:¬(fm nb v b\/h3.size<=b):=by
          rintro(k1|k1)
          · exact hob k1
          · have:=eT hrow (by simp[bP]);omega
         have m3:=hnM3 h.size (Nat.le_refl _) (by omega);have m4:=hnM3 h1.size (by omega) (by omega);have m5:=hnM3 h2.size (by omega) (by omega);have hlenx:=gu x ss to;refine af ?_;refine jK 13 (λb=>fm nb v b\/Array.size h3<=b) (λi=>Nat.blt i 13) ?_;refine bq 0 rfl (λh' e=>aA rfl (e.cell m3 (q3.cell (i:=0) rfl))) ?_;refine bq 1 rfl (λh' e=>aA rfl (e.cell m3 (q3.cell (i:=0) rfl))) ?_;refine aF 2 ?_;refine bq 3 rfl (λh' e=>aA rfl (e.cell m4 (q4.cell (i:=5) rfl))) ?_;refine bq 4 rfl (λh' e=>bZ rfl rfl 0 rfl ha) ?_;refine bq 5 rfl (λh' e=>cj rfl (e.rowAt hbM hrow)) ?_;refine bq 6 rfl (λh' e=>aA rfl (e.cell m5 (q5.cell (i:=0) rfl))) ?_;refine bq 8 rfl (λh' e=>aA rfl (e.cell m5 (q5.cell (i:=0) rfl))) ?_;refine cV 7 rfl (aE rfl (ih (x:=x) (O:=O) (to:=to) (by omega) hn3 hO3 hnd hwx (by omega))) ?_;rintro _ h5 ⟨v5,rfl,hn5,nx5⟩;refine⟨λ_=>nx5.ext.mono (λb _ k=>k.elim .inl (λk=>k.elim)),?_⟩;have hz5:=nx5.ext.size;have hown5:=hn5.own
         have hnew5:∀t,aL jy (h5.push (.cells #[.int .i64 ((lay x ss to).2:Nat),.int .i64 (to:Nat)] t)) (λb=>fm nb v5 b\/O b) (.slice (some ⟨h5.size,0,none⟩) 2 2) [(lay x ss to).2,to]:=λt=>PB t _ _ (by
          rintro((k1|k1)|k1)
          · omega
          · have:=hown5 _ k1.symm;omega
          · have:=hO3 _ k1;omega)
         refine cV 9 rfl (iD [_,_]) ?_;rintro _ _ ⟨rfl,rfl⟩;refine⟨λ_=>by first|exact Ext.push _ _ _|assumption,?_⟩;refine bq 10 rfl (λh' e=>av (H.BT _ _ _) rfl) ?_;refine cV 11 rfl (aE rfl (pO (O:=O) (hn5.ah (Ext.push _ _ _) (λ_ _ k=>k)) (λb hb=>by have:=hO3 b hb;simp;omega) (hnew5 _) (by omega))) ?_;rintro _ h6 ⟨v6,rfl,hn6,nx6⟩;refine⟨λ_=>nx6.ext.mono (λb _ k=>by rcases k with (k1|k1)|k1;(exact .inl (.inl k1));(rcases nx5.own b k1.symm with k2|k2;(exact .inl (.inr k2.symm));exact .inr k2);exact k1.elim),?_⟩;refine aF 12 ?_;refine fV ?_;refine aP ?_;exact⟨_,rfl,v6,rfl,hn6,((nx3.trans nx5 (λ_ _ k=>k)).trans (Nx.Nh (Ext.push _ _ _)) (λ_ _ k=>k)).trans nx6 (λ_ _ k=>k)⟩
       · have h6k':¬k=6:=kk h6k;refine af ?_;refine aN (λh4k=>?_) (λh4k=>?_)
         · obtain rfl:k=4:=by omega
           have hone:kids.length=1:=by simp[lu] at hw;exact hw.1
           obtain⟨x,rfl⟩:∃x,kids=[x]:=by match kids,hone with| [x],_=>exact⟨x,rfl⟩
           have hkn1:kn=1:=by simpa using hkn.symm
           have hszx:js x<=eR [x]:=by simp[eR]
           have hwx:lu x=true:=by simpa [ng] using hwl
           have hlay:lay (.mk 4 s [x]) ss to=((lay x (ss++[⟨0,0,[],0⟩]) ss.length).1.set ss.length ⟨0,0,[(lay x (ss++[⟨0,0,[],0⟩]) ss.length).2,to],0⟩,ss.length):=by rw[lay];simp[cy]
           rw[hlay];refine af ?_;refine dc rfl (by simp) ?_;refine af ?_;refine xp rfl (aA rfl (q3.cell (i:=0) rfl)) ?_;refine xp rfl (av (H.J8 ) rfl) ?_;refine xo rfl (aE rfl (pO (O:=O) (to:=[]) hn3 hO3 (aL.nil _ _ _) (by omega))) ?_;rintro _ h5 ⟨v5,rfl,hn5,nx5⟩;have hz5:=nx5.ext.size;have hz0:=e03.size;have q3':=q3.ext nx5.ext (hnM _ (Nat.le_refl _));have q4':=q4.ext nx5.ext (hnM _ (by omega));have q5':=q5.ext nx5.ext (hnM _ (by omega));have hsl5:aL mX h5 (fm nb v5) (.slice oa kn kc) [x]:=hsl3.mv nx5.Ni;obtain⟨oa',n',c',hv',_,_,_,hget⟩:=id hsl5;cases hv';obtain⟨b,o,cs,ha,hob,hrow,hnd⟩:=hget 0 x rfl;obtain⟨w2,rfl,-⟩:=hnd.open;have hown5:=hn5.own
           have hnM5:∀b,h.size<=b->b<h3.size->¬(fm nb v5 b\/h5.size<=b):=by
            rintro b hb hb' ((k1|k1)|k1)
            · omega
            · rcases nx5.own b k1.symm with k2|k2
              · have:=hown b k2;omega
              · omega
            · omega
           have hbM:¬(fm nb v5 b\/h5.size<=b):=by
            rintro(k1|k1)
            · exact hob k1
            · have:=eT hrow (by simp[bP]);omega
           have m3:=hnM5 h.size (Nat.le_refl _) (by omega);have m4:=hnM5 h1.size (by omega) (by omega);refine af ?_;refine jK 8 (λb=>fm nb v5 b\/Array.size h5<=b) (λi=>Nat.blt i 8) ?_;refine bq 0 rfl (λh' e=>aA rfl (e.cell m3 (q3'.cell (i:=0) rfl))) ?_;refine aF 1 ?_;refine bq 2 rfl (λh' e=>aA rfl (e.cell m4 (q4'.cell (i:=5) rfl))) ?_;refine bq 3 rfl (λh' e=>bZ rfl rfl 0 rfl ha) ?_;refine bq 4 rfl (λh' e=>cj rfl (e.rowAt hbM hrow)) ?_;refine aF 5 ?_;refine cV 6 rfl (aE rfl (ih (x:=x) (O:=O) (to:=ss.length) (by omega) hn5 (λb hb=>by have:=hO3 b hb;omega) hnd hwx (by simp;omega))) ?_;rintro _ h6 ⟨v6,rfl,hn6,nx6⟩;refine⟨λ_=>nx6.ext.mono (λb _ k=>k.elim .inl (λk=>k.elim)),?_⟩;have hz6:=nx6.ext.size;have nx36:=nx5.trans nx6 (λ_ _ k=>k);have q3':=q3.ext nx36.ext (hnM _ (Nat.le_refl _));have q4':=q4.ext nx36.ext (hnM _ (by omega));have q5':=q5.ext nx36.ext (hnM _ (by omega));have hown6:=hn6.own;have hlen6:=gu x (ss++[⟨0,0,[],0⟩]) ss.length;rw[List.length_append,List.length_singleton] at hlen6;have hpre:(lay x (ss++[⟨0,0,[],0⟩]) ss.length).1[ss.length]? =some ⟨0,0,[],0⟩:=by rw[nH x _ _ _ (by simp)];simp
           have hn6c:=hn6.blk.cell (i:=0) rfl
           have hnM6:∀b,h.size<=b->b<h3.size->¬(fm nb v6 b\/h6.size<=b):=by
            rintro b hb hb' ((k1|k1)|k1)
            · omega
            · rcases nx36.own b k1.symm with k2|k2
              · have:=hown b k2;omega
              · omega
            · omega
           have hnew6:∀t,aL jy (h6.push (.cells #[.int .i64 ((lay x (ss++[⟨0,0,[],0⟩]) ss.length).2:Nat),.int .i64 (to:Nat)] t)) (λb=>bU v6.ownBlock b\/b=nb\/O b) (.slice (some ⟨h6.size,0,none⟩) 2 2) [(lay x (ss++[⟨0,0,[],0⟩]) ss.length).2,to]:=λt=>PB t _ _ (by
            rintro(k1|k1|k1)
            · have:=hown6 _ k1.symm;omega
            · omega
            · have:=hO3 _ k1;omega)
           generalize hout:lay x (ss++[⟨0,0,[],0⟩]) ss.length=out at *;have hn7:cv (h6.push (.cells #[.int .i64 (out.2:Nat),.int .i64 (to:Nat)] 3)) O nb v6 out.1 st:=hn6.ah (Ext.push _ _ _) (λ_ _ k=>k);obtain⟨g,c6,cs6,hv6,hg1,hg2,hg3,hg4,hg5,hg6⟩:=hn7.row.put hpre;obtain⟨w6,rfl,_⟩:=hg5;subst hv6;have hput:=hg6 5 (.slice (some ⟨h6.size,0,none⟩) 2 2) ⟨0,0,[out.2,to],0⟩ (by decide) ⟨_,rfl,hnew6 _⟩;have hgb:h6.size=g\/g<h6.size:=by have:=hown6 g rfl;omega
           have hg6':g<h6.size:=(hown6 g rfl).2;have hcell7:cellAt (h6.push (.cells #[.int .i64 (out.2:Nat),.int .i64 (to:Nat)] 3)) ⟨g,0+ss.length*7+5,none⟩=some w6:=hg3 5 _ rfl;have m6:=hnM6 h1.size (by omega) (by omega);have j4:¬h1.size=g:=λk=>m6 (.inl (.inr (by rw[k];rfl)))
           have j3:¬h6.size<=h.size:=by omega
           have j0:¬h6.size<=nb:=by omega
           have j5:¬h6.size<=h2.size:=by omega
           refine aF 7 ?_;refine fV ?_;refine af ?_;refine jK 11 (λb=>Array.size h6<=b) (λi=>Nat.blt i 10) ?_;refine bq 0 rfl (λh' e=>aA rfl (e.cell j3 (q3'.cell (i:=0) rfl))) ?_;refine aF 1 ?_;refine aF 2 ?_;refine bq 3 rfl (λh' e=>aA rfl (e.cell j0 hn6c)) ?_;refine aF 4 ?_;refine aF 5 ?_;refine bq 6 rfl (λh' e=>aA rfl (e.cell j5 (q5'.cell (i:=0) rfl))) ?_;refine cV 7 rfl (iD [_,_]) ?_;rintro _ _ ⟨rfl,rfl⟩;refine⟨λ_=>by first|exact Ext.push _ _ _|assumption,?_⟩;refine Nu 8 rfl (bZ rfl rfl ss.length rfl rfl) ?_;refine aF 9 ?_;refine gU 10 rfl (bf H.Cx rfl rfl rfl hcell7 (hg4 _)) ?_;rintro _ _ ⟨rfl,rfl⟩;refine⟨nofun,?_⟩;refine fV ?_;refine af ?_;have hz7:∀u,(dx (h6.push (.cells #[.int .i64 (out.2:Nat),.int .i64 (to:Nat)] 3)) ⟨g,0+ss.length*7+5,none⟩ u).size=h6.size+1:=λu=>by rw[iP];simp
           have ex7:∀u,Ext (λb=>b=g) h6 (dx (h6.push (.cells #[.int .i64 (out.2:Nat),.int .i64 (to:Nat)] 3)) ⟨g,0+ss.length*7+5,none⟩ u):=λu=>⟨by rw[hz7];omega,λb hb hn=>by rw[(Ext.dx (M:=λb=>b=g) _ _ u rfl).block b (by simp;omega) hn,(Ext.push (λ_=>False) h6 _).block b hb (λk=>k)]⟩
           refine xp rfl (aA rfl ((q4'.ext (ex7 _) j4).cell (i:=0) rfl)) ?_;refine af ?_;refine dB rfl (by decide) ?_;refine af ?_;refine aP ?_;exact⟨_,rfl,_,rfl,⟨hn6.blk.ext (ex7 _) (by have:=hown6 g rfl;omega),hput⟩,((nx3.trans nx36 (λ_ _ k=>k)).trans ⟨(ex7 _).mono (λb _ k=>.inl (.inr (by rw[k];rfl))),λb k=>.inl k⟩ (λ_ _ k=>k))⟩
         · have h4k':¬k=4:=kk h4k;refine af ?_;refine aN (λh5k=>?_) (λh5k=>?_)
           · obtain rfl:k=5:=by omega
             have hone:kids.length=1:=by simp[lu] at hw;exact hw.1
             obtain⟨x,rfl⟩:∃x,kids=[x]:=by match kids,hone with| [x],_=>exact⟨x,rfl⟩
             have hkn1:kn=1:=by simpa using hkn.symm
             have hszx:js x<=eR [x]:=by simp[eR]
             have hwx:lu x=true:=by simpa [ng] using hwl
             have hlay:lay (.mk 5 s [x]) ss to=((lay x (ss++[⟨0,0,[],0⟩]) ss.length).1.set ss.length ⟨0,0,[(lay x (ss++[⟨0,0,[],0⟩]) ss.length).2,to],0⟩,(lay x (ss++[⟨0,0,[],0⟩]) ss.length).2):=by rw[lay];simp[cy]
             rw[hlay];refine af ?_;refine xp rfl (aA rfl (q3.cell (i:=0) rfl)) ?_;refine xp rfl (av (H.J8 ) rfl) ?_;refine xo rfl (aE rfl (pO (O:=O) (to:=[]) hn3 hO3 (aL.nil _ _ _) (by omega))) ?_;rintro _ h5 ⟨v5,rfl,hn5,nx5⟩;have hz5:=nx5.ext.size;have hz0:=e03.size;have q3':=q3.ext nx5.ext (hnM _ (Nat.le_refl _));have q4':=q4.ext nx5.ext (hnM _ (by omega));have q5':=q5.ext nx5.ext (hnM _ (by omega));have hsl5:aL mX h5 (fm nb v5) (.slice oa kn kc) [x]:=hsl3.mv nx5.Ni;obtain⟨oa',n',c',hv',_,_,_,hget⟩:=id hsl5;cases hv';obtain⟨b,o,cs,ha,hob,hrow,hnd⟩:=hget 0 x rfl;obtain⟨w2,rfl,-⟩:=hnd.open;have hown5:=hn5.own
             have hnM5:∀b,h.size<=b->b<h3.size->¬(fm nb v5 b\/h5.size<=b):=by
              rintro b hb hb' ((k1|k1)|k1)
              · omega
              · rcases nx5.own b k1.symm with k2|k2
                · have:=hown b k2;omega
                · omega
              · omega
             have hbM:¬(fm nb v5 b\/h5.size<=b):=by
              rintro(k1|k1)
              · exact hob k1
              · have:=eT hrow (by simp[bP]);omega
             have m3:=hnM5 h.size (Nat.le_refl _) (by omega);have m4:=hnM5 h1.size (by omega) (by omega);refine af ?_;refine jK 8 (λb=>fm nb v5 b\/Array.size h5<=b) (λi=>Nat.blt i 8) ?_;refine bq 0 rfl (λh' e=>aA rfl (e.cell m3 (q3'.cell (i:=0) rfl))) ?_;refine aF 1 ?_;refine bq 2 rfl (λh' e=>aA rfl (e.cell m4 (q4'.cell (i:=5) rfl))) ?_;refine bq 3 rfl (λh' e=>bZ rfl rfl 0 rfl ha) ?_;refine bq 4 rfl (λh' e=>cj rfl (e.rowAt hbM hrow)) ?_;refine aF 5 ?_;refine cV 6 rfl (aE rfl (ih (x:=x) (O:=O) (to:=ss.length) (by omega) hn5 (λb hb=>by have:=hO3 b hb;omega) hnd hwx (by simp;omega))) ?_;rintro _ h6 ⟨v6,rfl,hn6,nx6⟩;refine⟨λ_=>nx6.ext.mono (λb _ k=>k.elim .inl (λk=>k.elim)),?_⟩;have hz6:=nx6.ext.size;have nx36:=nx5.trans nx6 (λ_ _ k=>k);have q3':=q3.ext nx36.ext (hnM _ (Nat.le_refl _));have q4':=q4.ext nx36.ext (hnM _ (by omega));have q5':=q5.ext nx36.ext (hnM _ (by omega));have hown6:=hn6.own;have hlen6:=gu x (ss++[⟨0,0,[],0⟩]) ss.length;rw[List.length_append,List.length_singleton] at hlen6;have hpre:(lay x (ss++[⟨0,0,[],0⟩]) ss.length).1[ss.length]? =some ⟨0,0,[],0⟩:=by rw[nH x _ _ _ (by simp)];simp
             have hn6c:=hn6.blk.cell (i:=0) rfl
             have hnM6:∀b,h.size<=b->b<h3.size->¬(fm nb v6 b\/h6.size<=b):=by
              rintro b hb hb' ((k1|k1)|k1)
              · omega
              · rcases nx36.own b k1.symm with k2|k2
                · have:=hown b k2;omega
                · omega
              · omega
             have hnew6:∀t,aL jy (h6.push (.cells #[.int .i64 ((lay x (ss++[⟨0,0,[],0⟩]) ss.length).2:Nat),.int .i64 (to:Nat)] t)) (λb=>bU v6.ownBlock b\/b=nb\/O b) (.slice (some ⟨h6.size,0,none⟩) 2 2) [(lay x (ss++[⟨0,0,[],0⟩]) ss.length).2,to]:=λt=>PB t _ _ (by
              rintro(k1|k1|k1)
              · have:=hown6 _ k1.symm;omega
              · omega
              · have:=hO3 _ k1;omega)
             generalize hout:lay x (ss++[⟨0,0,[],0⟩]) ss.length=out at *;have hn7:cv (h6.push (.cells #[.int .i64 (out.2:Nat),.int .i64 (to:Nat)] 3)) O nb v6 out.1 st:=hn6.ah (Ext.push _ _ _) (λ_ _ k=>k);obtain⟨g,c6,cs6,hv6,hg1,hg2,hg3,hg4,hg5,hg6⟩:=hn7.row.put hpre;obtain⟨w6,rfl,_⟩:=hg5;subst hv6;have hput:=hg6 5 (.slice (some ⟨h6.size,0,none⟩) 2 2) ⟨0,0,[out.2,to],0⟩ (by decide) ⟨_,rfl,hnew6 _⟩;have hgb:h6.size=g\/g<h6.size:=by have:=hown6 g rfl;omega
             have hg6':g<h6.size:=(hown6 g rfl).2;have hcell7:cellAt (h6.push (.cells #[.int .i64 (out.2:Nat),.int .i64 (to:Nat)] 3)) ⟨g,0+ss.length*7+5,none⟩=some w6:=hg3 5 _ rfl;have m6:=hnM6 h1.size (by omega) (by omega);have j4:¬h1.size=g:=λk=>m6 (.inl (.inr (by rw[k];rfl)))
             have j3:¬h6.size<=h.size:=by omega
             have j0:¬h6.size<=nb:=by omega
             have j5:¬h6.size<=h2.size:=by omega
             refine aF 7 ?_;refine fV ?_;refine af ?_;refine jK 11 (λb=>Array.size h6<=b) (λi=>Nat.blt i 10) ?_;refine bq 0 rfl (λh' e=>aA rfl (e.cell j3 (q3'.cell (i:=0) rfl))) ?_;refine aF 1 ?_;refine aF 2 ?_;refine bq 3 rfl (λh' e=>aA rfl (e.cell j0 hn6c)) ?_;refine aF 4 ?_;refine aF 5 ?_;refine bq 6 rfl (λh' e=>aA rfl (e.cell j5 (q5'.cell (i:=0) rfl))) ?_;refine cV 7 rfl (iD [_,_]) ?_;rintro _ _ ⟨rfl,rfl⟩;refine⟨λ_=>by first|exact Ext.push _ _ _|assumption,?_⟩;refine Nu 8 rfl (bZ rfl rfl ss.length rfl rfl) ?_;refine aF 9 ?_;refine gU 10 rfl (bf H.Cx rfl rfl rfl hcell7 (hg4 _)) ?_;rintro _ _ ⟨rfl,rfl⟩;refine⟨nofun,?_⟩;refine fV ?_;refine af ?_;have hz7:∀u,(dx (h6.push (.cells #[.int .i64 (out.2:Nat),.int .i64 (to:Nat)] 3)) ⟨g,0+ss.length*7+5,none⟩ u).size=h6.size+1:=λu=>by rw[iP];simp
             have ex7:∀u,Ext (λb=>b=g) h6 (dx (h6.push (.cells #[.int .i64 (out.2:Nat),.int .i64 (to:Nat)] 3)) ⟨g,0+ss.length*7+5,none⟩ u):=λu=>⟨by rw[hz7];omega,λb hb hn=>by rw[(Ext.dx (M:=λb=>b=g) _ _ u rfl).block b (by simp;omega) hn,(Ext.push (λ_=>False) h6 _).block b hb (λk=>k)]⟩
             refine xp rfl (aA rfl ((q4'.ext (ex7 _) j4).cell (i:=0) rfl)) ?_;refine af ?_;refine dc rfl (by decide) ?_;refine af ?_;refine aP ?_;exact⟨_,rfl,_,rfl,⟨hn6.blk.ext (ex7 _) (by have:=hown6 g rfl;omega),hput⟩,((nx3.trans nx36 (λ_ _ k=>k)).trans ⟨(ex7 _).mono (λb _ k=>.inl (.inr (by rw[k];rfl))),λb k=>.inl k⟩ (λ_ _ k=>k))⟩
           · have h5k':¬k=5:=kk h5k;have hlay:lay (.mk k s kids) ss to=(ss,to):=by rw[lay];simp[h1k',h2k',h3k',h4k',h5k',h6k']
             rw[hlay];refine af ?_;refine xp rfl (aA rfl (q5.cell (i:=0) rfl)) ?_;refine af ?_;refine aP ?_;exact⟨_,rfl,v,rfl,hn3,nx3⟩
theorem Jq:∀n,Ko n
 | 0=>by
  intro hs;have:=jM ‹Nd›;omega
 |n+1=>Jr (Jq n)
def oA:gW By:=.flat (λs=>.string (bs s)) λ_=>rfl
def Aw (h h':aq) (rules:List By) (r:Value):Prop :=
 match eo rules with
 |.inl e=>r= .tuple #[.pointer none,.int .i64 e]
 |.inr (ss,st)=>∃nb v,r= .tuple #[.pointer (some ⟨nb,0,none⟩),.int .i64 0]/\h.size<=nb/\cv h' (λb=>b<h.size) nb v ss st
theorem Kf {O:Nat->Prop}{nb:Nat}{v:Value}{ss:List bL}{st:Nat}(i:Nat) (I:cv h O nb v ss st) (J:∀b,O b->b<h.size) (hl:ss.length<=1000000) :
 au prog 43 #[.pointer (some ⟨nb,0,none⟩),.agg #[.int .i64 2,.int .u64 0,.int .u64 0,.int .u64 0,.int .u64 0,.slice none 0 0,.int .i64 (i:Nat)]] h (bK (Lv O nb h v st (ss++[⟨2,0,[],i⟩],ss.length))):=by
 have h1:=BW (x:=⟨2,0,[],i⟩) I J ⟨.slice none 0 0,rfl,aL.nil _ _ _⟩ hl;simp only[GF,JN] at h1;exact h1
theorem EF {lim:Nat}(hg:Sg h lim) (hlim:lim<=h.size){rv:Value}{rules:List By}(hr:aL oA h (λ_=>False) rv rules) (hrl:∀s∈rules,s.length<=1000000) :
 au prog 23 #[rv] h (bK λr h'=>Aw h h' rules r/\aj h h'):=by
 obtain⟨oa,kn,kc,rfl,hsl⟩:=id hr.open;have hkn:=hsl.len;have hkc:=hsl.le;have hcap:=hsl.cap;generalize htgt:jG 0 rules [] []=tgt;refine bJ ?_;refine aQ ?_;refine cI ?_
 iterate 2 refine aR ?_
 refine cO ?_
 iterate 2 refine aQ ?_
 refine dU [(18,.bool (decide (kn=0\/64<kn)))] rfl ?_ ?_
 · refine af ?_;refine cX 14 (λhg=>?_) (λhg=>?_)
   · refine af ?_;exact aD rfl ⟨ai rfl (by have:=of_decide_eq_true hg;simp;omega),sb rfl⟩
   · refine af ?_;exact aD rfl ⟨ai rfl (by have:=of_decide_eq_false hg;simp only[decide_eq_decide];omega),sb rfl⟩
 · refine aN (λhbig=>?_) (λhbig=>?_)
   · refine af ?_;refine aP ?_;refine⟨_,rfl,?_,Ext.refl _ _⟩;have:eo rules= .inl 2:=by unfold eo;rw[if_pos (show rules.length=0\/64<rules.length by omega)]
     rw[Aw,this];rfl
   · have hmk:eo rules=match jG 0 rules [] [] with|.inl e=>.inl e|.inr (ss,t)=>if 2000<ni rules then .inl 70 else .inr (ss++[⟨0,0,t,0⟩],ss.length):=by unfold eo;rw[if_neg (show ¬(rules.length=0\/64<rules.length) by omega)];rfl
     rw[htgt] at hmk;refine af ?_;refine xp rfl (av (H.OG ) rfl) ?_;refine xo rfl (mh) ?_;rintro _ h1 ⟨rfl,q4,e1,z1⟩;have q4:aC h1 h.size 99 [.slice none 0 0,.int .i64 (0:Nat)]:=q4;have hn1:cv h1 (λb=>b<h.size) h.size (.slice none 0 0) [] 0:=⟨q4,cH.nil _ _ _ _ _⟩
     refine af ?_;refine fK (σ:=Nat×Value) (λp=>[(5,p.2),(6,.int .i64 (ni (rules.take p.1):Nat)),(23,.int .i64 (p.1:Nat))]) (λp h'=>p.1<=kn/\∃v ss t,cv h' (λb=>b<h.size\/bU p.2.ownBlock b) h.size v ss 0/\cH jy (λ_=>True) h' h1.size 3 p.2 t/\Nx (λ_=>False) h.size h1 (.slice none 0 0) h' v/\(∀b,p.2.ownBlock=some b->v.ownBlock≠some b)/\(ss.length<=402*p.1/\ni (rules.take p.1)<=200*p.1/\t.length=p.1)/\jG p.1 (rules.drop p.1) ss t=tgt) (λp=>kn-p.1) ((0,.slice none 0 0)) ⟨Nat.zero_le _,_,[],[],hn1.ah (Ext.refl _ _) (λb _ k=>k.elim id (λk=>by cases k)),cH.nil _ _ _ _ _,Nx.refl,λb hb=>(by cases hb),⟨Nat.zero_le _,by simp[ni],rfl⟩,htgt⟩ rfl ?_;rintro⟨i,tv⟩ g0 ⟨hi,v,ss,t,hng,htg,nxg,hdist,⟨hss,htot,htl⟩,hcon⟩ ih
     try dsimp only
     dsimp only at hi hng htg nxg hdist hss htot htl hcon;have hz0:=nxg.ext.size;have htv:∀b,tv.ownBlock=some b->h1.size<=b/\b<g0.size:=λb hb=>by obtain⟨_,_,k,_⟩:=id htg;exact k.lt hb
     have e0g:aj h g0:=⟨by omega,λb hb _=>(nxg.ext.block b (by omega) (by
      rintro((k|k)|k)
      · omega
      · cases k
      · exact k)).trans (e1.block b hb (λk=>k))⟩
     have hown:=hng.own;have hnlt:=hng.blk.lt;refine af ?_;refine aN (λhlt=>?_) (λhlt=>?_)
     · obtain⟨s,hs⟩:∃s,rules[i]? =some s:=⟨_,List.getElem?_eq_getElem (by omega)⟩
       have hdr:rules.drop i=s::rules.drop (i+1):=by
        obtain⟨hi',rfl⟩:=List.getElem?_eq_some_iff.1 hs;exact List.drop_eq_getElem_cons hi'
       rw[hdr,jG] at hcon;obtain⟨oa',n',c',hv',_,_,_,hget⟩:=id (hr.ah e0g);cases hv';obtain⟨b,o,cs,ha,hob,hrow,rfl⟩:=hget i s hs
       iterate 4 refine aQ ?_
       refine cI ?_;refine aR ?_;refine xp rfl (bZ rfl rfl i rfl ha) ?_;refine xp rfl (aA rfl (hrow 0 _ rfl)) ?_;refine af ?_;refine xo rfl (aE rfl (CU (hg.ext e0g (λ_ k=>k.elim)) (by omega) s (hrl s (List.mem_of_getElem? hs)))) ?_;rintro _ g1 ⟨⟨w,rfl,hnd⟩,e01⟩;refine af ?_;refine xo rfl (cL) ?_;rintro _ g2 ⟨rfl,k9,e12,z12⟩;refine aO rfl (aZ rfl rfl k9 (aI.one hnd)) ?_;rintro _ g3 ⟨rfl,k9',e23,z23⟩;refine af ?_;have k9':aC g3 g1.size 105 (bP (aU s).1.kind (aU s).1.set w):=k9';refine aN (λherr=>?_) (λherr=>?_)
       · rw[if_pos (by exact herr)] at hcon;refine af ?_;refine aP ?_;have e3:aj h g3:=(e0g.trans e01).trans (e12.only e23 (Nat.le_refl _));refine⟨_,rfl,?_,e3⟩;rw[<-hcon] at hmk;rw[Aw,hmk];rfl
       · have h0:(aU s).2=0:=by simpa using herr
         rw[if_neg (by simpa using h0)] at hcon;have hsmall:=ig h0;have hbs:=aJ s;have ecc:aj g1 g3:=e12.only e23 (Nat.le_refl _);have e03:aj g0 g3:=e01.trans ecc;have hz1:=e01.size;have hz3:=ecc.size;have hz13:g1.size<g3.size:=by omega
         iterate 2 refine aQ ?_
         refine dU [(6,.int .i64 (ni (rules.take (i+1)):Nat))] rfl ?_ ?_
         · refine af ?_;exact aD rfl ⟨(by show some (Value.int _ _)=some (Value.int _ _);rw[tw hs];congr 2),sb rfl⟩
         · have hn3:cv g3 (λb=>b<h.size\/bU tv.ownBlock b) h.size v ss 0:=hng.ah e03 (λ_ _ k=>k);have hO3:∀b,(b<h.size\/bU tv.ownBlock b)->b<g3.size:=λb hb=>by rcases hb with k|k;omega;(have:=htv b k.symm;omega)
           have hnd3:aI g3 (fm h.size v) (bP (aU s).1.kind (aU s).1.set w) (aU s).1:=hnd.mv ⟨ecc.size,λb hb hn=>⟨ecc.block b hb (λk=>k),by
            rintro(k|k)
            · exact hn (by show b<g0.size;omega)
            · exact hn (by show b<g0.size;exact(hown b k.symm).2)⟩⟩
           have hK1:¬(fm h.size v g1.size\/False):=by
            rintro((k|k)|k)
            · omega
            · have:=hown _ k.symm;omega
            · exact k
           refine jK 11 (λb=>¬b=Array.size g1) (λi=>Nat.blt i 11) ?_;refine aF 0 ?_;refine aF 1 ?_;refine bq 2 rfl (λh' e=>cj rfl (e.rowAt (λk=>k rfl) k9'.row)) ?_;refine aF 3 ?_;refine aF 4 ?_;refine bq 5 rfl (λh' e=>av (H.HJ _ _) rfl) ?_;refine cV 6 rfl (aE rfl (Kf i hn3 hO3 (by omega))) ?_;rintro _ g4 ⟨v4,rfl,hn4,nx4⟩;refine⟨λ_=>nx4.ext.mono (λb _ k e=>hK1 (e▸k)),?_⟩;have hz4:=nx4.ext.size
           have hK2:¬(fm h.size v4 g1.size\/False):=by
            rintro((k|k)|k)
            · omega
            · rcases nx4.own _ k.symm with k2|k2
              · exact hK1 (.inl (.inr k2.symm))
              · omega
            · exact k
           refine cV 7 rfl (aE rfl (Jq 401 (x:=(aU s).1) (to:=ss.length) hsmall.1 hn4 (λb hb=>by have:=hO3 b hb;omega) (hnd3.mv nx4.Ni) hsmall.2.1 (by have:=hsmall.1;simp only[List.length_append,List.length_singleton];omega))) ?_;rintro _ g5 ⟨v5,rfl,hn5,nx5⟩;refine⟨λ_=>nx5.ext.mono (λb _ k e=>hK2 (e▸k)),?_⟩;have hz5:=nx5.ext.size;have nx45:Nx (λ_=>False) h.size g3 v g5 v5:=nx4.trans nx5 (λ_ _ k=>k)
           have ht5:cH jy (λ_=>True) g5 h1.size 3 tv t:=(htg.ah e03).kU nx45.ext (λb hb=>by
            rintro((k1|k1)|k1)
            · have:=htv b hb;omega
            · exact hdist b hb k1.symm
            · exact k1) (λ_ _ _=>trivial) (λ_ _ _=>trivial)
           obtain⟨css,hc1,hc2,hc3⟩:=id ht5;have hKt:¬bU tv.ownBlock g1.size:=λk=>by have:=htv _ k.symm;omega
           refine cV 8 rfl (iD [_]) ?_;rintro _ _ ⟨rfl,rfl⟩;refine⟨λ_=>by first|exact Ext.push _ _ _|assumption,?_⟩;refine cV 9 rfl (vL rfl rfl hc2 rfl rfl) ?_;rintro t6 g6 ⟨ho6,hx6,hx6',hv6⟩;refine⟨λ_=>hx6'.mono (λb _ k e=>hKt (e▸k)),?_⟩;refine aF 10 ?_;refine fV ?_;refine af ?_;have ht6:=cH.eC hc1 hc3 ho6 hx6 hv6 (y:=(lay (aU s).1 (ss++[(⟨2,0,[],i⟩:bL)]) ss.length).2) rfl
           have hn6:cv g6 (λb=>b<h.size\/bU t6.ownBlock b) h.size v5 (lay (aU s).1 (ss++[⟨2,0,[],i⟩]) ss.length).1 0:=hn5.ext hx6 (λk=>by have:=htv _ k.symm;omega) (λb hb k=>by
            rcases nx45.own b hb with k'|k'
            · exact hdist b k.symm k'
            · have:=htv b k.symm;omega) (λb _ k=>.inr k) (λb hb k=>k.imp id (λk=>by
              rcases hv6 b k.symm with k'|k'
              · exact k'.symm
              · omega))
           have hd6:∀b,t6.ownBlock=some b->v5.ownBlock≠some b:=λb hb k=>by
            rcases hv6 b hb with k'|k'
            · rcases nx45.own b k with k2|k2
              · exact hdist b k' k2
              · have:=htv b k';omega
            · have:=(hn5.own b k).2;omega
           have nx05:Nx (λ_=>False) h.size h1 (.slice none 0 0) g5 v5:=(nxg.trans (Nx.Nh e03) (λ_ _ k=>k)).trans nx45 (λ_ _ k=>k);have nx06:Nx (λ_=>False) h.size h1 (.slice none 0 0) g6 v5:=⟨⟨by have:=hx6.size;omega,λb hb hn=>by rw[hx6.block b (by omega) (λk=>by have:=htv b k.symm;omega)];exact nx05.ext.block b hb hn⟩,nx05.own⟩
           have hlenl:=(gu (aU s).1 (ss++[⟨2,0,[],i⟩]) ss.length).2;rw[List.length_append,List.length_singleton] at hlenl;have htt:=tw hs;exact ih (i+1,t6) ⟨by show i+1<=kn;omega,v5,_,_,hn6,ht6,nx06,hd6,⟨by have:=hsmall.1;show _<=402*(i+1);omega,by have:=hsmall.2.2;show ni (rules.take (i+1))<=200*(i+1);omega,by simp[htl]⟩,hcon⟩
     · obtain rfl:i=kn:=by omega
       have hall:rules.take i=rules:=List.take_of_length_le (by omega);have hnil:rules.drop i=[]:=List.drop_of_length_le (by omega);rw[hnil,jG] at hcon;rw[<-hcon] at hmk;rw[hall] at htot;simp only[hall];refine af ?_;refine aN (λhbig2=>?_) (λhbig2=>?_)
       · refine af ?_;refine aP ?_;refine⟨_,rfl,?_,e0g⟩;have:eo rules= .inl 70:=by rw[hmk];exact if_pos (by omega)
         rw[Aw,this];rfl
       · have hmk2:eo rules= .inr (ss++[⟨0,0,t,0⟩],ss.length):=by rw[hmk];exact if_neg (by omega)
         have hrd:aL jy g0 (λb=>fm h.size v b\/b<h.size) tv t:=htg.wO (λb hb=>by
          rintro((k1|k1)|k1)
          · have:=htv b hb;omega
          · exact hdist b hb k1.symm
          · have:=htv b hb;omega) (λ_ _ _=>trivial)
         obtain⟨oa9,n9,c9,rfl,_⟩:=id hrd;refine af ?_;refine xp rfl (av (H.BT _ _ _) rfl) ?_;refine xo rfl (aE rfl (pO (O:=λb=>b<h.size) (to:=t) (hng.ah (Ext.refl _ _) (λb _ k=>.inl k)) (λb hb=>by omega) hrd (by omega))) ?_;rintro _ g4 ⟨v4,rfl,hn4,nx4⟩;refine af ?_;refine aO rfl (iG rfl rfl hn4.blk) ?_;rintro _ g5 ⟨rfl,hk5,hx5,hz5⟩;refine af ?_;refine aP ?_;have hn5:cv g5 (λb=>b<h.size) h.size v4 (ss++[⟨0,0,t,0⟩]) ss.length:=⟨hk5,hn4.row.kU hx5 (λb hb k=>by have:=(hn4.own b hb).1;omega) (λb _ k=>.inl k) (λb _ k=>k)⟩
         have e4:aj h g5:=⟨by have:=hx5.size;have:=nx4.ext.size;omega,λb hb _=>by
          rw[hx5.block b (by have:=nx4.ext.size;omega) (by omega),nx4.ext.block b (by omega) ?_]
          · exact e0g.block b hb (λk=>k)
          · rintro((k|k)|k)
            · omega
            · rcases nxg.own b k.symm with k2|k2
              · cases k2
              · omega
            · exact k⟩
         refine⟨_,rfl,?_,e4⟩;rw[Aw,hmk2];exact⟨h.size,v4,rfl,Nat.le_refl _,hn5⟩
theorem qX {O:Nat->Prop}{nb:Nat}{v:Value}{ss:List bL}{st:Nat}(hn:cv h O nb v ss st):au prog 81 #[.pointer (some ⟨nb,0,none⟩)] h (bK λr h'=>r= .bool (decide (ss.length=0))/\h'=h):=by
 obtain⟨css,hc1,hc2,hc3⟩:=id hn.row;obtain⟨oa,c,rfl,_⟩:=hc2.open;refine bJ ?_;refine aQ ?_;refine cI ?_;refine aR ?_;refine cO ?_;refine aQ ?_;refine dU [(2,.bool (decide (ss.length=0)))] rfl ?_ ?_
 · refine aR ?_;refine xp rfl (az.tY underlying70 rfl rfl) ?_;refine af ?_;refine RW.bw (d:=5) (b':=false) rfl (rfl) ?_;refine af ?_;refine xp rfl (aA rfl (hn.blk.cell (i:=0) rfl)) ?_;refine af ?_;exact aD rfl ⟨ai rfl (by simp only[decide_eq_decide];omega),sb rfl⟩
 · refine aP ?_;exact⟨_,rfl,rfl,rfl⟩
end
end Go.Proofs.YtnjahnbpnpkmhaaGreatDoor
namespace Go.Proofs.YtnjahnbpnpkmhaaGreatDoor
open Go Go.Lw
set_option maxRecDepth 20000
section
variable {h:aq}
theorem I0 {base:Nat}{t:TypeId}{v:Value}{todo:List Nat}{m:Nat}(k:bN eO h base t v todo) (hm:todo.length=m+1) :
    ∃g c x,v= .slice (some ⟨g,0,none⟩) (m+1) c/\m+1<=c/\g<h.size/\base<=g/\cellAt h ⟨g,0+m*1,none⟩=some (.int .i64 (x:Nat))/\todo=todo.dropLast++[x] /\
      bN eO h base t (.slice (dm (some ⟨g,0,none⟩) 0 1 c) m c) todo.dropLast/\(Value.slice (dm (some ⟨g,0,none⟩) 0 1 c) m c).ownBlock=some g:=by
  have k':aB h base t 1 v todo.length (todo.map eO):=k;obtain⟨oa,c,rfl,U⟩:=k'.open;have I:todo≠[]:=by intro e;rw[e] at hm;cases hm
  have J:todo=todo.dropLast++[todo.getLast I]:=(List.dropLast_concat_getLast I).symm
  have hx:(todo.map eO)[m]? =some (eO (todo.getLast I)):=by
    rw[List.getElem?_map,List.getLast_eq_getElem,List.getElem?_eq_getElem (by omega)];simp[hm]
  obtain⟨g,rfl,hb,Y,hc,_⟩:=U.at hx;have Z:=U.take (m:=m) (by omega) 1
  have hd:(todo.map eO).take (m*1)=todo.dropLast.map eO:=by
    rw[Nat.mul_one,List.dropLast_eq_take,hm,Nat.add_sub_cancel,List.map_take]
  rw[hd] at Z;refine⟨g,c,todo.getLast I,by rw[hm],by have:=U.le;omega,Y,hb,hc,J,?_,?_⟩
  · have hl:todo.dropLast.length=m:=by simp[hm]
    unfold bN;rw[hl];exact Z
  · unfold dm;split<;>simp[Value.ownBlock,Addr.add]
theorem cv.get {O:Nat->Prop}{nb:Nat}{v:Value}{ss:List bL}{st i:Nat}{x:bL}(k:cv h O nb v ss st) (J:ss[i]? =some x) :
    ∃g c w,v= .slice (some ⟨g,0,none⟩) ss.length c/\g<h.size/\Lw.rowAt h g (0+i*7) (GF x.kind x.set w x.rule)/\aL jy h (λb=>bU v.ownBlock b\/b=nb\/O b) w x.to:=by
  obtain⟨g,c,cs,rfl,_,U,I,_,⟨w,rfl,hw⟩,_⟩:=k.row.put J;exact⟨g,c,w,rfl,U,I,hw⟩
theorem DX {O:Nat->Prop}{oa:Option Addr}{n c:Nat}{xs:List Nat}(k:aL jy h O (.slice oa n c) xs):xs.length=n/\(n=0\/∃b o,oa=some ⟨b,o,none⟩/\Lw.rowAt h b o (xs.map eO))/\n<=maxLen:=by
  obtain⟨oa',n',c',I,hl,hc,hm,J⟩:=k;cases I;have hs:Sl jy h O oa n c xs:=⟨hl,hc,hm,J⟩
  exact⟨hl,Sl.row hs,by omega⟩
end
end Go.Proofs.YtnjahnbpnpkmhaaGreatDoor
namespace Go.Proofs.YtnjahnbpnpkmhaaGreatDoor
open Go.Proofs.Tryz
open Go Go.Lw
set_option maxRecDepth 20000 set_option maxHeartbeats 4000000
section
variable {ss:List bL}{n nb st:Nat}{todo:List Nat}{seen:List Bool}{h:aq}{O:Nat->Prop}{v:Value}
theorem E2 {i:Nat}(I:todo.getLast? =some i) (hs:seen[i]? =some true):jI ss (n+1) todo seen=jI ss n todo.dropLast seen:=by
 rw[jI,I];simp[hs]
theorem HF {i:Nat}{x:bL}(J:todo.getLast? =some i) (hs:seen[i]? =some false) (I:ss[i]? =some x):jI ss (n+1) todo seen=jI ss n (if x.kind=0 then todo.dropLast++x.to else todo.dropLast) (seen.set i true):=by
 rw[jI,J];simp[hs,I]
theorem HE:jI ss n [] seen=seen:=by cases n<;>simp[jI]
def HY (ss:List bL) (seen:List Bool) (i:Nat):Bool:=seen[i]? ==some true && (ss[i]?.map (·.kind)) !=some 0
theorem sU {tv:Value}{base:Nat}{tb:Option Nat}(hn:cv h O nb v ss st) (hgood:Good ss) (hss:ss.length<=1000000) (htd:bN eO h base 3 tv todo) (htb:tv.ownBlock=tb)
 (hbase:base<=h.size) (hOt:∀b,tb=some b->O b/\b≠nb/\v.ownBlock≠some b) (hlt:∀j∈todo,j<ss.length) (hpot:todo.length+uJ ss (List.replicate ss.length false)<=1000000) :
 au prog 82 #[.pointer (some ⟨nb,0,none⟩),tv] h (bK λr h'=>bN eO h' h.size 3 r (closed ss todo)/\Ext (bU tb) h h'):=by
 obtain⟨css,hc1,hc2,hc3⟩:=id hn.row;obtain⟨va,vc,rfl,_⟩:=hc2.open
 have htl:tb=none\/∃b,tb=some b/\b<h.size:=by
  cases tb with
  |none=>exact .inl rfl
  |some b=>exact .inr ⟨b,rfl,(aB.lt htd htb).2⟩
 obtain⟨oa,c,rfl,_⟩:=(show aB h base 3 1 tv todo.length (todo.map eO) from htd).open;generalize htgt:jI ss (todo.length+uJ ss (List.replicate ss.length false)) todo (List.replicate ss.length false)=tgt;refine bJ ?_;refine af ?_;refine aN (λhz=>?_) (λhz=>?_)
 · refine af ?_;refine aP ?_;have:closed ss todo=[]:=by unfold closed;rw[if_pos (by omega)]
   rw[this];exact⟨_,rfl,bN.nil _ _ _ _,Ext.refl _ _⟩
 · refine af ?_;refine xp rfl (aA rfl (hn.blk.cell (i:=0) rfl)) ?_;refine af ?_;refine xo rfl (aV.gk underlying130 H.K7 H.LH rfl rfl rfl (by omega) (by decide)) ?_;rintro _ h1 ⟨rfl,hk1,e1⟩;refine af ?_;refine fK (σ:=Nat×Value×List Nat×List Bool) (λq=>[(1,q.2.1)]) (λq h'=>Ext (bU tb) h h'/\bN eO h' base 3 q.2.1 q.2.2.1/\(∀b,q.2.1.ownBlock=some b->tb=some b\/h1.size<=b)/\aB h' h.size 4 1 (.slice (some ⟨h.size,0,none⟩) ss.length ss.length) ss.length (q.2.2.2.map .bool)/\q.2.2.2.length=ss.length/\(∀j∈q.2.2.1,j<ss.length)/\(q.2.2.1.length+uJ ss q.2.2.2<=q.1/\q.1<=1000000/\h1.size<=h'.size)/\jI ss q.1 q.2.2.1 q.2.2.2=tgt) (λq=>q.1) ((todo.length+uJ ss (List.replicate ss.length false),.slice oa todo.length c,todo,List.replicate ss.length false)) ⟨e1.mono λ_ _ k=>k.elim,aB.gR htd e1,λb hb=>.inl (htb.symm.trans hb),by simpa using hk1,by simp,hlt,⟨Nat.le_refl _,hpot,Nat.le_refl _⟩,htgt⟩ rfl ?_;rintro⟨n,dv,td,seen⟩ g ⟨eg,hd,hdo,hs,hsl,hlt',⟨hp,hn1,hgz⟩,hcon⟩ ih
   try dsimp only
   dsimp only at hd hdo hs hsl hlt' hp hn1 hcon;have hz1:h.size<h1.size:=by have:=(aB.lt hk1 rfl).2;exact this
   have hsow:=hs.open;obtain⟨sa,sc,hsv,hsow⟩:=hsow;cases hsv
   rcases Nat.eq_zero_or_pos td.length with hpos|hpos
   · obtain rfl:td=[]:=List.eq_nil_of_length_eq_zero hpos;obtain⟨oad,cd,rfl,_⟩:=(show aB g base 3 1 dv ([]:List Nat).length (([]:List Nat).map eO) from hd).open;rw[HE] at hcon;refine af ?_;refine dB rfl (by simp) ?_;have hnc:∀{h':aq},Ext (bU tb) h h'->cv h' O nb (.slice va ss.length vc) ss st:=λe=>hn.ext e (λk=>(hOt nb k.symm).2.1 rfl) (λb hb k=>(hOt b k.symm).2.2 hb) (λb _ k=>(hOt b k.symm).1) (λ_ _ k=>k)
     have hcl:closed ss todo=(List.range ss.length).filter (HY ss seen):=by
      unfold closed;rw[if_neg (by omega),htgt,<-hcon];rfl
     refine af ?_;refine fK (σ:=Nat×Value) (λq=>[(7,q.2),(61,.int .i64 (q.1:Nat))]) (λq h'=>q.1<=ss.length/\aj g h'/\bN eO h' g.size 3 q.2 ((List.range q.1).filter (HY ss seen))) (λq=>ss.length-q.1) ((0,.slice none 0 0)) ⟨Nat.zero_le _,Ext.refl _ _,bN.nil _ _ _ _⟩ rfl ?_;rintro⟨i,ov⟩ g2 ⟨hi,e2,ho2⟩ ih2
     try dsimp only
     dsimp only at hi ho2;have eg2:Ext (bU tb) h g2:=eg.trans (e2.mono λ_ _ k=>k.elim);have hn2:=hnc eg2;have hz2:=e2.size;refine af ?_;refine aN (λhlti=>?_) (λhlti=>?_)
     · have hil:i<ss.length:=by omega
       obtain⟨bx,hbx⟩:∃bx,seen[i]? =some bx:=⟨_,List.getElem?_eq_getElem (by omega)⟩
       obtain⟨y,hy⟩:∃y,ss[i]? =some y:=⟨_,List.getElem?_eq_getElem hil⟩
       obtain⟨sa2,sc2,hsv2,hsow2⟩:=(aB.gR hs e2).open;cases hsv2;obtain⟨g',hg',_,hsg,hscell,hsnf⟩:=hsow2.at (i:=i) (x:=.bool bx) (by rw[List.getElem?_map,hbx];rfl);cases hg';obtain⟨gs,cs,ws,hvs,hgs,hrow,hws⟩:=hn2.get hy;cases hvs;have hlen2:((List.range i).filter (HY ss seen)).length<=i:=by have:=List.length_filter_le (HY ss seen) (List.range i);simpa using this
       have hnext:(List.range (i+1)).filter (HY ss seen)=(List.range i).filter (HY ss seen)++(if HY ss seen i then [i] else []):=by
        rw[List.range_succ,List.filter_append];cases hpr:HY ss seen i<;>simp[hpr]
       iterate 4 refine aQ ?_
       refine cI ?_;refine aR ?_;refine xp rfl (bZ rfl rfl i rfl rfl) ?_;refine xp rfl (aA rfl hscell) ?_
       iterate 2 refine aR ?_
       refine cO ?_;refine aQ ?_;refine dU [(77,.bool (HY ss seen i))] rfl ?_ ?_
       · refine af ?_;refine cX 67 (λhg=>?_) (λhg=>?_)
         · refine af ?_;refine xp rfl (aA rfl (hn2.blk.cell (i:=0) rfl)) ?_;refine aR ?_;refine xp rfl (bZ rfl rfl i rfl rfl hil) ?_;refine af ?_;refine xp rfl (aA rfl (hrow 0 _ rfl)) ?_;refine af ?_;exact aD rfl ⟨ai rfl (by subst hg;simp[HY,hbx,hy];by_cases hk0:y.kind=0<;>simp[hk0]),sb rfl⟩
         · refine af ?_;exact aD rfl ⟨ai rfl (by subst hg;simp[HY,hbx]),sb rfl⟩
       · refine jS (λhb=>?_) (λhb=>?_)
         · rw[if_pos hb] at hnext;refine af ?_;refine xo rfl (iD [_]) ?_;rintro _ _ ⟨rfl,rfl⟩;refine xo rfl (vL rfl rfl ho2 rfl rfl) ?_;rintro ov3 g3 ⟨ho3,hx3,-,hv3⟩;refine af ?_;have ho3':bN eO g3 g.size 3 ov3 ((List.range (i+1)).filter (HY ss seen)):=by rw[hnext];exact bN.of (ys:=[i]) ho3 rfl rfl rfl
           have e3:aj g g3:=bN.grown e2 ho2 (Nat.le_refl _) hx3;exact ih2 (i+1,ov3) ⟨by show i+1<=_;omega,e3,ho3'⟩
         · rw[if_neg (by rw[hb];decide)] at hnext;rw[List.append_nil] at hnext;rw[<-hnext] at ho2;refine af ?_;exact ih2 (i+1,ov) ⟨by show i+1<=_;omega,e2,ho2⟩
     · obtain rfl:i=ss.length:=by omega
       refine af ?_;refine aP ?_;rw[hcl];exact⟨_,rfl,iX ho2 (by omega),eg2⟩
   · obtain⟨m,hm⟩:∃m,td.length=m+1:=⟨td.length-1,by omega⟩
     obtain⟨gd,cd,x,rfl,hcd,hgd,hbd,hcell,hlast,hcut,hcb⟩:=I0 hd hm;have hgl:td.getLast? =some x:=by rw[hlast];simp
     have hxl:x<ss.length:=hlt' x (by rw[hlast];simp);have hltd:∀j∈td.dropLast,j<ss.length:=λj hj=>hlt' j (List.dropLast_subset _ hj)
     have hdl:td.dropLast.length=m:=by simp[hm]
     obtain⟨n,rfl⟩:∃n',n=n'+1:=⟨n-1,by omega⟩
     obtain⟨bx,hbx⟩:∃bx,seen[x]? =some bx:=⟨_,List.getElem?_eq_getElem (by omega)⟩
     obtain⟨y,hy⟩:∃y,ss[x]? =some y:=⟨_,List.getElem?_eq_getElem hxl⟩
     obtain⟨g',hg',_,hsg,hscell,hsnf⟩:=hsow.at (i:=x) (x:=.bool bx) (by rw[List.getElem?_map,hbx];rfl);cases hg';refine af ?_;refine dc rfl (by simp only[decide_eq_false_iff_not];omega) ?_
     iterate 3 refine aQ ?_
     refine cI ?_
     iterate 4 refine aR ?_
     refine xp rfl (bZ rfl rfl m (by omega) rfl) ?_;refine xp rfl (aA rfl hcell) ?_;refine af ?_;refine xp rfl (az.rZ underlying100 H.mW rfl rfl m (by omega) (by omega)) ?_;refine aR ?_;refine cO ?_
     iterate 2 refine aQ ?_
     refine cI ?_
     iterate 2 refine aR ?_
     refine xp rfl (bZ rfl rfl x rfl rfl) ?_;refine xp rfl (aA rfl hscell) ?_;refine af ?_;refine jS (λhb=>?_) (λhb=>?_)
     · subst hb;rw[E2 hgl hbx] at hcon;refine af ?_;exact ih (n,_,td.dropLast,seen) ⟨eg,hcut,λb hb=>hdo b (by rw[<-hb];exact hcb▸rfl),hs,hsl,hltd,⟨by show td.dropLast.length+uJ ss seen<=n;omega,by show n<=_;omega,hgz⟩,hcon⟩
     · subst hb;rw[HF hgl hbx hy] at hcon;have hpt:=Bc ss seen x y hy hbx
       have hgne:¬gd=h.size:=λk=>by
        rcases hdo gd rfl with k2|k2
        · rcases htl with k3|⟨b3,k3,k4⟩
          · rw[k3] at k2;cases k2
          · rw[k3] at k2;cases k2;omega
        · omega
       iterate 2 refine aQ ?_
       refine cI ?_
       iterate 2 refine aR ?_
       refine xp rfl (bZ rfl rfl x rfl rfl) ?_;refine aO rfl (bf H.Cv rfl rfl rfl hscell hsnf) ?_;rintro _ g2 ⟨rfl,hg2⟩;have x2:Ext (λb=>b=h.size) g g2:=by rw[hg2];exact Ext.dx _ _ _ rfl
       have hz2:=x2.size;have eg2:Ext (bU tb) h g2:=⟨by omega,λb hb hn=>by rw[x2.block b (by omega) (by omega)];exact eg.block b hb hn⟩
       have hs2:aB g2 h.size 4 1 (.slice (some ⟨h.size,0,none⟩) ss.length ss.length) ss.length ((seen.set x true).map .bool):=by
        have k:=(hsow.set (i:=x) rfl hxl (.bool true)).own;rw[<-hg2] at k;rw[List.map_set];exact k
       have hcut2:aB g2 base 3 1 _ td.dropLast.length (td.dropLast.map eO):=aB.ext x2 hcut (λb hb k=>hgne (by have:=hcb.symm.trans hb;cases this;exact k));have hn2:cv g2 O nb _ ss st:=hn.ext eg2 (λk=>(hOt nb k.symm).2.1 rfl) (λb hb k=>(hOt b k.symm).2.2 hb) (λb _ k=>(hOt b k.symm).1) (λ_ _ k=>k);obtain⟨gs,cs,ws,hvs,hgs,hrow,hws⟩:=hn2.get hy;cases hvs;have hsl2:(seen.set x true).length=ss.length:=by simpa using hsl
       refine af ?_;refine xp rfl (aA rfl (hn2.blk.cell (i:=0) rfl)) ?_;refine aR ?_;refine xp rfl (bZ rfl rfl x rfl rfl hxl) ?_;refine af ?_;refine xp rfl (aA rfl (hrow 0 _ rfl)) ?_;refine af ?_;refine aN (λhk=>?_) (λhk=>?_)
       · rw[if_pos (by omega)] at hcon;obtain⟨wa,wn,wc,rfl,_⟩:=id hws;obtain⟨hwl,hwn,hwm⟩:=DX hws;rw[hdl] at hcut2;refine af ?_;refine xp rfl (aA rfl (hn2.blk.cell (i:=0) rfl)) ?_;refine aR ?_;refine xp rfl (bZ rfl rfl x rfl rfl hxl) ?_;refine af ?_;refine xp rfl (aA rfl (hrow 5 _ rfl)) ?_;refine xo rfl (aV.append underlying100 H.Oi rfl rfl hcut2 (by simp[hwl]) hwn (by intro u hu;simp at hu;obtain⟨j,_,rfl⟩:=hu;rfl) (by simp only[maxLen];omega) (by omega) (by omega)) ?_;rintro dv3 g3 ⟨hd3,ex3,-,ho3⟩;refine af ?_;have hz3:=ex3.size;rw[hcb] at ex3 ho3
         have hd3':bN eO g3 base 3 dv3 (td.dropLast++y.to):=by
          unfold bN;rw[List.length_append,hdl,hwl,List.map_append];exact hd3
         have hdo3:∀b,dv3.ownBlock=some b->tb=some b\/h1.size<=b:=λb hb=>by
          rcases ho3 b hb with k|k
          · exact hdo b k
          · exact .inr (by omega)
         have eg3:Ext (bU tb) h g3:=⟨by omega,λb hb hn=>by
          rw[ex3.block b (by omega) ?_]
          · exact eg2.block b hb hn
          · intro k;cases k
            rcases hdo gd rfl with k2|k2
            · exact hn k2.symm
            · omega⟩
         have hgood':∀j∈td.dropLast++y.to,j<ss.length:=λj hj=>by
          rcases List.mem_append.1 hj with k|k
          · exact hltd j k
          · exact hgood y (List.mem_of_getElem? hy) j k
         exact ih (n,dv3,td.dropLast++y.to,seen.set x true) ⟨eg3,hd3',hdo3,aB.ext ex3 hs2 (λb hb k=>by cases k;cases hb;exact hgne rfl),hsl2,hgood',⟨by show (td.dropLast++y.to).length+uJ ss (seen.set x true)<=n;rw[List.length_append];omega,by show n<=_;omega,by show h1.size<=g3.size;omega⟩,hcon⟩
       · rw[if_neg (by omega)] at hcon;refine af ?_;exact ih (n,_,td.dropLast,seen.set x true) ⟨eg2,hcut2,λb hb=>hdo b (by rw[<-hb];exact hcb▸rfl),hs2,hsl2,hltd,⟨by show td.dropLast.length+uJ ss (seen.set x true)<=n;omega,by show n<=_;omega,by show h1.size<=g2.size;omega⟩,hcon⟩
theorem CB (Z:cv h O nb v ss st) (I:Good ss) (aa:ss.length<=1000000) (hst:ss.length=0\/st<ss.length) (U:1+uJ ss (List.replicate ss.length false)<=1000000) :
 au prog 45 #[.pointer (some ⟨nb,0,none⟩)] h (bK λr h'=>bN eO h' h.size 3 r (cB ss st)/\aj h h'):=by
 have Y:=Z.own;have hnlt:=Z.blk.lt;refine bJ ?_;refine af ?_;refine xo rfl (aE rfl (qX Z)) ?_;rintro _ h0 ⟨rfl,ae⟩;refine af ?_;subst ae;refine aN (λhz=>?_) (λhz=>?_)
 · refine af ?_;refine aP ?_;rw[cB,if_pos hz];exact⟨_,rfl,bN.nil _ _ _ _,Ext.refl _ _⟩
 · have ad:cv (h0.push (.cells #[.int .i64 (st:Nat)] 3)) (λb=>O b\/b=h0.size) nb v ss st:=Z.ah (Ext.push _ _ _) (λb hb k=>k.elim id (λk=>by omega));have ac:bN eO (h0.push (.cells #[.int .i64 (st:Nat)] 3)) h0.size 3 (.slice (some ⟨h0.size,0,none⟩) 1 1) [st]:=iA eO h0 3 [st] 1 rfl (by simp[maxLen]) h0.size (Nat.le_refl _) rfl;refine af ?_;refine xp rfl (aA rfl (Z.blk.cell (i:=1) rfl)) (xo rfl (iD [_]) ?_);rintro _ _ ⟨rfl,rfl⟩;refine xo rfl (aE rfl (sU (tb:=some h0.size) ad I aa ac rfl (by simp) (λb hb=>by cases hb;exact⟨.inr rfl,by omega,λk=>by have:=(Y _ k).2;omega⟩) (λj hj=>by simp at hj;omega) U)) ?_;rintro _ h2 ⟨ab,J⟩;refine af ?_;refine aP ?_;rw[cB,if_neg hz];have hps:(h0.push (.cells #[.int .i64 (st:Nat)] 3)).size=h0.size+1:=by simp
   refine⟨_,rfl,iX ab (by omega),⟨by have:=J.size;omega,λb hb _=>?_⟩⟩;rw[J.block b (by omega) (λk=>by cases k;omega)];exact(Ext.push (λ_=>False) h0 _).block b hb (λk=>k)
theorem zB {nv:Value}{now:List Nat}(hn:cv h O nb v ss st) (_hss:ss.length<=1000000) (hnow:aL jy h (λ_=>False) nv now) (hlt:∀j∈now,j<ss.length) (hnn:now.length<=1000000) :
 au prog 48 #[.pointer (some ⟨nb,0,none⟩),nv] h (bK λr h'=>r= .int .i64 (bu ss now)/\h'=h):=by
 obtain⟨css,hc1,hc2,hc3⟩:=id hn.row;obtain⟨va,vc,rfl,_⟩:=hc2.open;obtain⟨na,nn,nc,rfl,hnl,hnc,hnm,hget⟩:=id hnow;generalize htgt:tg ss now (-1)=tgt;refine bJ ?_;refine af ?_;refine xo rfl (aE rfl (qX hn)) ?_;rintro _ h0 ⟨rfl,hh0⟩;refine af ?_;subst hh0;refine aN (λhz=>?_) (λhz=>?_)
 · refine af ?_;refine aP ?_;rw[bu,if_pos hz];exact⟨_,rfl,rfl,rfl⟩
 · refine af ?_;refine fK (σ:=Nat×Int) (λq=>[(5,.int .i64 q.2),(13,.int .i64 (q.1:Nat))]) (λq h'=>h'=h0/\q.1<=nn/\tg ss (now.drop q.1) q.2=tgt) (λq=>nn-q.1) ((0,-1)) ⟨rfl,Nat.zero_le _,htgt⟩ rfl ?_;rintro⟨i,b⟩ h1 ⟨rfl,hi,hcon⟩ ih
   try dsimp only
   dsimp only at hi hcon;refine af ?_;refine aN (λhlti=>?_) (λhlti=>?_)
   · obtain⟨j,hj⟩:∃j,now[i]? =some j:=⟨_,List.getElem?_eq_getElem (by omega)⟩
     obtain⟨bb,o,cs,ha,_,hrow,rfl⟩:=hget i j hj;have hjl:j<ss.length:=hlt j (List.mem_of_getElem? hj);obtain⟨y,hy⟩:∃y,ss[j]? =some y:=⟨_,List.getElem?_eq_getElem hjl⟩
     obtain⟨gs,cs,ws,hvs,hgs,hrw,hws⟩:=hn.get hy;cases hvs
     have hdr:now.drop i=j::now.drop (i+1):=by
      obtain⟨hi',rfl⟩:=List.getElem?_eq_some_iff.1 hj;exact List.drop_eq_getElem_cons hi'
     rw[hdr,tg,hy] at hcon;simp only at hcon
     iterate 4 refine aQ ?_
     refine cI ?_;refine xp rfl (bZ rfl rfl i rfl ha) ?_;refine xp rfl (aA rfl (hrow 0 _ rfl)) ?_;refine aR ?_;refine cO ?_;refine aQ ?_;refine dU [(54,.bool (tf y b))] rfl ?_ ?_
     · refine af ?_;refine RW.bw (d:=19) (b':=true) rfl (decide_eq_true (by omega)) ?_;refine af ?_;refine xp rfl (aA rfl (hn.blk.cell (i:=0) rfl)) ?_;refine af ?_;refine RW.bw (d:=28) (b':=true) rfl (decide_eq_true (by omega)) ?_;refine af ?_;refine xp rfl (aA rfl (hn.blk.cell (i:=0) rfl)) ?_;refine aR ?_;refine xp rfl (bZ rfl rfl j rfl rfl hjl) ?_;refine af ?_;refine xp rfl (aA rfl (hrw 0 _ rfl)) ?_;refine af ?_;refine cX 39 (λhk=>?_) (λhk=>?_)
       · have hk':=of_decide_eq_true hk;refine af ?_;refine cX 42 (λhb=>?_) (λhb=>?_)
         · have hb':=of_decide_eq_true hb;refine af ?_;exact aD rfl ⟨ai rfl (by simp[tf];omega),sb rfl⟩
         · have hb':=of_decide_eq_false hb;refine af ?_;refine xp rfl (aA rfl (hn.blk.cell (i:=0) rfl)) ?_;refine aR ?_;refine xp rfl (bZ rfl rfl j rfl rfl hjl) ?_;refine af ?_;refine xp rfl (aA rfl (hrw 6 _ rfl)) ?_;refine af ?_;exact aD rfl ⟨ai rfl (by simp only[tf,decide_eq_decide];omega),sb rfl⟩
       · have hk':=of_decide_eq_false hk;refine af ?_;exact aD rfl ⟨ai rfl (by simp[tf];omega),sb rfl⟩
     · refine jS (λhb=>?_) (λhb=>?_)
       · rw[if_pos hb] at hcon;refine af ?_;refine xp rfl (aA rfl (hn.blk.cell (i:=0) rfl)) ?_;refine aR ?_;refine xp rfl (bZ rfl rfl j rfl rfl hjl) ?_;refine af ?_;refine xp rfl (aA rfl (hrw 6 _ rfl)) ?_;refine af ?_;exact ih (i+1,(y.rule:Int)) ⟨rfl,by show i+1<=nn;omega,hcon⟩
       · rw[if_neg (by rw[hb];decide)] at hcon;refine af ?_;exact ih (i+1,b) ⟨rfl,by show i+1<=nn;omega,hcon⟩
   · have hnil:now.drop i=[]:=List.drop_of_length_le (by omega);rw[hnil,tg] at hcon;refine af ?_;refine aP ?_;rw[bu,if_neg hz,htgt];exact⟨_,rfl,by rw[hcon];rfl,rfl⟩
theorem En {nv:Value}{now:List Nat}(c:UInt8) (hn:cv h O nb v ss st) (hgood:Good ss) (hss:ss.length<=1000000) (hnow:aL jy h (λ_=>False) nv now) (hlt:∀j∈now,j<ss.length) (hnn:now.length<=1000000)
 (hpot:(stepG ss c now []).length+uJ ss (List.replicate ss.length false)<=1000000) :
 au prog 47 #[.pointer (some ⟨nb,0,none⟩),nv,.int .u8 (c.toNat:Nat)] h (bK λr h'=>bN eO h' h.size 3 r (cT ss c now)/\aj h h'):=by
 have hown:=hn.own;have hnlt:=hn.blk.lt;obtain⟨css,hc1,hc2,hc3⟩:=id hn.row;obtain⟨va,vc,rfl,_⟩:=hc2.open;obtain⟨na,nn,nc,rfl,hnl,hnc,hnm,hget⟩:=id hnow;generalize htgt:stepG ss c now []=tgt at *;refine bJ ?_;refine af ?_;refine xo rfl (aE rfl (qX hn)) ?_;rintro _ h0 ⟨rfl,hh0⟩;refine af ?_;subst hh0;refine aN (λhz=>?_) (λhz=>?_)
 · refine af ?_;refine aP ?_;rw[cT,if_pos hz];exact⟨_,rfl,bN.nil _ _ _ _,Ext.refl _ _⟩
 · refine af ?_;refine fK (σ:=Nat×Value×List Nat) (λq=>[(7,q.2.1),(14,.int .i64 (q.1:Nat))]) (λq h'=>aj h0 h'/\q.1<=nn/\bN eO h' h0.size 3 q.2.1 q.2.2/\(∀j∈q.2.2,j<ss.length)/\stepG ss c (now.drop q.1) q.2.2=tgt) (λq=>nn-q.1) ((0,.slice none 0 0,[])) ⟨Ext.refl _ _,Nat.zero_le _,bN.nil _ _ _ _,(λj hj=>by cases hj),htgt⟩ rfl ?_;rintro⟨i,ov,acc⟩ h1 ⟨e1,hi,ho,hal,hcon⟩ ih
   try dsimp only
   dsimp only at hi ho hal hcon;have hz1:=e1.size;have hn1:cv h1 O nb (.slice va ss.length vc) ss st:=hn.ah e1 (λ_ _ k=>k);have hacc:acc.length<=tgt.length:=by rw[<-hcon];exact tC _ _ _ _
   refine af ?_;refine aN (λhlti=>?_) (λhlti=>?_)
   · obtain⟨j,hj⟩:∃j,now[i]? =some j:=⟨_,List.getElem?_eq_getElem (by omega)⟩
     obtain⟨bb,o,cs,ha,_,hrow,rfl⟩:=hget i j hj;have hjl:j<ss.length:=hlt j (List.mem_of_getElem? hj);obtain⟨y,hy⟩:∃y,ss[j]? =some y:=⟨_,List.getElem?_eq_getElem hjl⟩
     obtain⟨gs,cs,ws,hvs,hgs,hrw,hws⟩:=hn1.get hy;cases hvs
     have hdr:now.drop i=j::now.drop (i+1):=by
      obtain⟨hi',rfl⟩:=List.getElem?_eq_some_iff.1 hj;exact List.drop_eq_getElem_cons hi'
     rw[hdr,stepG,hy] at hcon;simp only at hcon;have hrow1:Lw.rowAt h1 bb (o+i*1) [eO j]:=e1.rowAt (λk=>k) hrow
     have hset:Lw.rowAt h1 gs (0+j*7+1) (cn y.set):=λq u hu=>by
      have hq:(GF y.kind y.set ws y.rule)[1+q]? =some u:=by
       match q with
       | 0=>exact hu
       | 1=>exact hu
       | 2=>exact hu
       | 3=>exact hu
       |q+4=>simp[cn] at hu
      have:=hrw (1+q) u hq
      rwa [<-Nat.add_assoc] at this
     iterate 4 refine aQ ?_
     refine cI ?_;refine xp rfl (bZ rfl rfl i rfl ha) ?_;refine xp rfl (aA rfl (hrow1 0 _ rfl)) ?_;refine aR ?_;refine cO ?_;refine aQ ?_;refine H9 (fun(_u:Unit) (h':aq)=>aj h1 h') (fun(_u:Unit)=>[(51,.bool (j8 y c))]) rfl ?_ ?_
     · refine af ?_;refine RW.bw (d:=20) (b':=true) rfl (decide_eq_true (by omega)) ?_;refine af ?_;refine xp rfl (aA rfl (hn1.blk.cell (i:=0) rfl)) ?_;refine af ?_;refine RW.bw (d:=29) (b':=true) rfl (decide_eq_true (by omega)) ?_;refine af ?_;refine xp rfl (aA rfl (hn1.blk.cell (i:=0) rfl)) ?_;refine aR ?_;refine xp rfl (bZ rfl rfl j rfl rfl hjl) ?_;refine af ?_;refine xp rfl (aA rfl (hrw 0 _ rfl)) ?_;refine af ?_;refine cX 40 (λhk=>?_) (λhk=>?_)
       · have hk':=of_decide_eq_true hk;have hk2:y.kind=1:=by omega
         refine af ?_;refine xp rfl (aA rfl (hn1.blk.cell (i:=0) rfl)) ?_;refine aR ?_;refine xp rfl (bZ rfl rfl j rfl rfl hjl) ?_;refine af ?_;refine xp rfl (cj rfl hset) ?_;refine af ?_;refine xo rfl (aE rfl (Hs y.set c)) ?_;rintro _ h2 ⟨rfl,e2⟩;refine af ?_;exact lN () e2 ⟨ai rfl (by simp[j8,hk2]),sb rfl⟩
       · have hk':=of_decide_eq_false hk;have hk2:¬y.kind=1:=by omega
         refine af ?_;exact lN () (Ext.refl _ _) ⟨ai rfl (by simp[j8,hk2]),sb rfl⟩
     · rintro _ h2 e2;have e02:=e1.trans e2;have ho2:bN eO h2 h0.size 3 ov acc:=bN.ah ho e2;have hn2:cv h2 O nb _ ss st:=hn.ah e02 (λ_ _ k=>k);have hz2:=e02.size;refine jS (λhb=>?_) (λhb=>?_)
       · rw[if_pos hb] at hcon;have hacc2:(acc++y.to).length<=tgt.length:=by rw[<-hcon];exact tC _ _ _ _
         rw[List.length_append] at hacc2;obtain⟨gs,cs,ws,hvs,hgs,hrw2,hws2⟩:=hn2.get hy;cases hvs;obtain⟨wa,wn,wc,rfl,_⟩:=id hws2;obtain⟨hwl,hwn,hwm⟩:=DX hws2;refine af ?_;refine xp rfl (aA rfl (hn2.blk.cell (i:=0) rfl)) ?_;refine aR ?_;refine xp rfl (bZ rfl rfl j rfl rfl hjl) ?_;refine af ?_;refine xp rfl (aA rfl (hrw2 5 _ rfl)) ?_;refine xo rfl (aV.append underlying100 H.Oi rfl rfl ho2 (by simp[hwl]) hwn (by intro u hu;simp at hu;obtain⟨j,_,rfl⟩:=hu;rfl) (by simp only[maxLen];omega) (by omega) (by omega)) ?_;rintro ov3 h3 ⟨ho3,hx3,-,hv3⟩;refine af ?_
         have ho3':bN eO h3 h0.size 3 ov3 (acc++y.to):=by
          unfold bN;rw[List.length_append,hwl,List.map_append];exact ho3
         have e3:aj h0 h3:=bN.grown e02 ho2 (Nat.le_refl _) hx3
         have hal3:∀j∈acc++y.to,j<ss.length:=λj hj=>by
          rcases List.mem_append.1 hj with k|k
          · exact hal j k
          · exact hgood y (List.mem_of_getElem? hy) j k
         exact ih (i+1,ov3,acc++y.to) ⟨e3,by show i+1<=nn;omega,ho3',hal3,hcon⟩
       · rw[if_neg (by rw[hb];decide)] at hcon;refine af ?_;exact ih (i+1,ov,acc) ⟨e02,by show i+1<=nn;omega,ho2,hal,hcon⟩
   · have hnil:now.drop i=[]:=List.drop_of_length_le (by omega);rw[hnil,stepG] at hcon;subst hcon;have hol:∀b,ov.ownBlock=some b->h0.size<=b/\b<h1.size:=λb hb=>aB.lt ho hb
     have hn':cv h1 (λb=>O b\/bU ov.ownBlock b) nb (.slice va ss.length vc) ss st:=hn.ah e1 (λb hb k=>k.elim id (λk=>by have:=(hol b k.symm).1;omega));refine af ?_;refine xo rfl (aE rfl (sU (tb:=ov.ownBlock) hn' hgood hss ho rfl (by omega) (λb hb=>⟨.inr hb.symm,by have:=hol b hb;omega,λk=>by have:=hol b hb;have:=(hown b k).2;omega⟩) hal hpot)) ?_;rintro _ h2 ⟨ho2,hx2⟩;refine af ?_;refine aP ?_;rw[cT,if_neg hz,htgt];refine⟨_,rfl,iX ho2 (by omega),⟨by have:=hx2.size;omega,λb hb _=>?_⟩⟩;rw[hx2.block b (by omega) (λk=>by have:=hol b k.symm;omega)];exact e1.block b hb (λk=>k)
theorem fq {α:Type}{e:gW α}{Q Q':Nat->Prop}{xs:List α}(k:aL e h Q v xs) (I:∀b,Q' b->Q b):aL e h Q' v xs:=k.mv ⟨Nat.le_refl _,λb _ J=>⟨rfl,λk=>J (I b k)⟩⟩
end
end Go.Proofs.YtnjahnbpnpkmhaaGreatDoor
namespace Go.Proofs.YtnjahnbpnpkmhaaGreatDoor
section
variable {F ss:List bL}{fin:Nat->Prop}{n to i st:Nat}{x:bL}{w:By}{todo:List Nat}{P:Nat->Nat->Prop}
inductive jo (A:By->Prop):By->Prop where
  |nil:jo A []
  |cons {u v:By}:A u->jo A v->jo A (u++v)
end
mutual
def rL:Nd->By->Prop
  |.mk k s kids=>λw =>
    if k=1 then ∃c:UInt8,w=[c]/\s.testBit c.toNat=true
    else if k=2 then pT kids w
    else if k=3 then n7 kids w
    else if k=6 then w=[]\/l7 kids w
    else if k=4 then jo (l7 kids) w
    else if k=5 then ∃u v,w=u++v/\l7 kids u/\jo (l7 kids) v
    else w=[]
def pT:List Nd->By->Prop
  | []=>λw=>w=[]
  |x::r=>λw=>∃u v,w=u++v/\rL x u/\pT r v
def n7:List Nd->By->Prop
  | []=>λ_=>False
  |x::r=>λw=>rL x w\/n7 r w
def l7:List Nd->By->Prop
  | []=>λw=>w=[]
  |x::_=>λw=>rL x w
end
section
variable {F ss:List bL}{fin:Nat->Prop}{n to i st:Nat}{x:bL}{w:By}{todo:List Nat}{P:Nat->Nat->Prop}
inductive Acc (F:List bL) (fin:Nat->Prop):Nat->Nat->By->Prop where
  |done {q:Nat}:fin q->Acc F fin 0 q []
  |eps {n q q':Nat}{x:bL}{w:By}:F[q]? =some x->x.kind=0->q'∈x.to->Acc F fin n q' w->Acc F fin (n+1) q w
  |eat {n q q':Nat}{x:bL}{c:UInt8}{w:By}:F[q]? =some x->x.kind=1->x.set.testBit c.toNat=true->q'∈x.to->Acc F fin n q' w->Acc F fin (n+1) q (c::w)
def mV (F:List bL) (fin:Nat->Prop):Prop:=∀q,fin q->∃x,F[q]? =some x/\x.kind=2
theorem Acc.fork (Y:mV F fin){q:Nat}(J:F[q]? =some x) (hk:x.kind=0) (h:Acc F fin n q w):∃m q',m<n/\q'∈x.to/\Acc F fin m q' w:=by
  cases h with
  |done U=>obtain⟨y,I,hk2⟩:=Y _ U;rw[J] at I;cases I;omega
  |eps I _ U h=>rw[J] at I;cases I;exact⟨_,_,Nat.lt_succ_self _,U,h⟩
  |eat I hk1 _ _ _=>rw[J] at I;cases I;omega
theorem Acc.Qd (Y:mV F fin){q:Nat}(J:F[q]? =some x) (hk:x.kind=1) (h:Acc F fin n q w):∃m q' c w',m<n/\w=c::w'/\x.set.testBit c.toNat=true/\q'∈x.to/\Acc F fin m q' w':=by
  cases h with
  |done U=>obtain⟨y,I,hk2⟩:=Y _ U;rw[J] at I;cases I;omega
  |eps I hk1 _ _=>rw[J] at I;cases I;omega
  |eat I _ hc U h=>rw[J] at I;cases I;exact⟨_,_,_,_,Nat.lt_succ_self _,rfl,hc,U,h⟩
def Splits (F:List bL) (fin:Nat->Prop) (b to:Nat) (A:By->Prop):Prop :=
  (∀n w,Acc F fin n b w->∃u v m,w=u++v/\A u/\m<=n/\Acc F fin m to v)/\(∀u v m,A u->Acc F fin m to v->∃n,Acc F fin n b (u++v))
def HQ (F ss':List bL) (lo:Nat):Prop:=∀i,lo<=i->i<ss'.length->F[i]? =ss'[i]?
theorem qT:Splits F fin to to (λw=>w=[]) :=
  ⟨λn w h=>⟨[],w,n,rfl,rfl,Nat.le_refl _,h⟩,λu v m hu h=>⟨m,by subst hu;exact h⟩⟩
theorem CC (hf:mV F fin){first again:Nat}{A:By->Prop}(Y:F[again]? =some x) (hk:x.kind=0) (ht:x.to=[first,to]) (h:Splits F fin first again A):Splits F fin again to (jo A):=by
  constructor
  · intro n
    induction n using Nat.strongRecOn with
    |_ n U =>
      intro w hw;obtain⟨m,q',hm,J,I⟩:=hw.fork hf Y hk;rw[ht] at J
      rcases List.mem_cons.1 J with rfl|J
      · obtain⟨u1,v1,m1,rfl,ac,hm1,aa⟩:=h.1 _ _ I;obtain⟨u2,v2,m2,rfl,ab,hm2,Z⟩:=U m1 (by omega) _ aa;exact⟨u1++u2,v2,m2,by simp,.cons ac ab,by omega,Z⟩
      · have:q'=to:=by simpa using J
        subst this;exact⟨[],w,m,rfl,.nil,by omega,I⟩
  · intro u v m hu hv
    induction hu with
    |nil=>exact⟨m+1,.eps Y hk (by rw[ht];simp) hv⟩
    |cons hA _ U =>
      obtain⟨n,hn⟩:=U;obtain⟨n',ad⟩:=h.2 _ _ _ hA hn;exact⟨n'+1,.eps (q':=first) Y hk (by rw[ht];simp) (by rw[List.append_assoc];exact ad)⟩
theorem wm {b c:Nat}{A B:By->Prop}(h1:Splits F fin b c A) (h2:Splits F fin c to B):Splits F fin b to (λw=>∃u v,w=u++v/\A u/\B v):=by
  constructor
  · intro n w hw;obtain⟨u1,v1,m1,rfl,Y,hm1,J⟩:=h1.1 _ _ hw;obtain⟨u2,v2,m2,rfl,U,hm2,I⟩:=h2.1 _ _ J;exact⟨u1++u2,v2,m2,by simp,⟨_,_,rfl,Y,U⟩,by omega,I⟩
  · rintro u v m ⟨u1,u2,rfl,hA,hB⟩ hv;obtain⟨n,hn⟩:=h2.2 _ _ _ hB hv;obtain⟨n',Z⟩:=h1.2 _ _ _ hA hn;exact⟨n',by rw[List.append_assoc];exact Z⟩
end
mutual
theorem nG {F:List bL}{fin:Nat->Prop}(hf:mV F fin):∀(x:Nd) (ss:List bL) (to:Nat),HQ F (lay x ss to).1 ss.length->Splits F fin (lay x ss to).2 to (rL x)
  |.mk k s kids,ss,to,hs=>by
    rw[lay] at hs ⊢;unfold rL
    by_cases h1:k=1
    · simp only[if_pos h1] at hs ⊢;have J:F[ss.length]? =some ⟨1,s,[to],0⟩:=by rw[hs _ (Nat.le_refl _) (by simp)];simp
      constructor
      · intro n w hw;obtain⟨m,q',c,w',hm,rfl,hc,U,I⟩:=hw.Qd hf J rfl;have:q'=to:=by simpa using U
        subst this;exact⟨[c],w',m,rfl,⟨c,rfl,hc⟩,by omega,I⟩
      · rintro u v m ⟨c,rfl,hc⟩ hv;exact⟨m+1,.eat J rfl hc (by simp) hv⟩
    · simp only[if_neg h1] at hs ⊢
      by_cases Z:k=2
      · simp only[if_pos Z] at hs ⊢;exact qC hf kids ss to hs
      · simp only[if_neg Z] at hs ⊢
        by_cases h3:k=3
        · simp only[if_pos h3] at hs ⊢;have hl:=fP kids ss to;have J:F[(aY kids ss to).1.length]? =some ⟨0,0,(aY kids ss to).2,0⟩:=by rw[hs _ (by omega) (by simp)];simp
          have ih:=qD hf kids ss to (λi h1 Z=>by rw[hs i h1 (by simp;omega),List.getElem?_append_left Z]);constructor
          · intro n w hw;obtain⟨m,q',hm,U,I⟩:=hw.fork hf J rfl;obtain⟨u,v,m',hu⟩:=ih.1 _ _ _ U I;exact⟨u,v,m',hu.1,hu.2.1,by omega,hu.2.2.2⟩
          · intro u v m hu hv;obtain⟨n,q',U,hn⟩:=ih.2 _ _ _ hu hv;exact⟨n+1,.eps J rfl U hn⟩
        · simp only[if_neg h3] at hs ⊢
          by_cases h6:k=6
          · simp only[if_pos h6] at hs ⊢;have hl:=gJ kids ss to;have J:F[(cy kids ss to).1.length]? =some ⟨0,0,[(cy kids ss to).2,to],0⟩:=by rw[hs _ (by omega) (by simp)];simp
            have ih:=qB hf kids ss to (λi h1 Z=>by rw[hs i h1 (by simp;omega),List.getElem?_append_left Z]);constructor
            · intro n w hw;obtain⟨m,q',hm,U,I⟩:=hw.fork hf J rfl
              rcases List.mem_cons.1 U with rfl|U
              · obtain⟨u,v,m',h1,Z,h3,h4⟩:=ih.1 _ _ I;exact⟨u,v,m',h1,.inr Z,by omega,h4⟩
              · have:q'=to:=by simpa using U
                subst this;exact⟨[],w,m,rfl,.inl rfl,by omega,I⟩
            · rintro u v m (rfl|hu) hv
              · exact⟨m+1,.eps J rfl (by simp) hv⟩
              · obtain⟨n,hn⟩:=ih.2 _ _ _ hu hv;exact⟨n+1,.eps J rfl (by simp) hn⟩
          · simp only[if_neg h6] at hs ⊢
            by_cases Y:k=4\/k=5
            · simp only[if_pos Y] at hs ⊢;have hl:=gJ kids (ss++[⟨0,0,[],0⟩]) ss.length;simp only[List.length_append,List.length_singleton] at hl
              have J:F[ss.length]? =some ⟨0,0,[(cy kids (ss++[⟨0,0,[],0⟩]) ss.length).2,to],0⟩:=by
                rw[hs _ (Nat.le_refl _) (by simp;omega)];simp[List.getElem?_set];omega
              have ih:=qB hf kids (ss++[⟨0,0,[],0⟩]) ss.length (λi h1 Z=>by
                simp only[List.length_append,List.length_singleton] at h1;rw[hs i (by omega) (by simp;omega),List.getElem?_set_ne (by omega)])
              have aa:=CC hf J rfl rfl ih
              by_cases h4:k=4
              · have h5:¬k=5:=by omega
                simp only[if_pos h4,if_neg h5];exact aa
              · have h5:k=5:=by omega
                simp only[if_neg h4,if_pos h5];exact wm ih aa
            · simp only[if_neg Y] at hs ⊢;have h4:¬k=4:=λe=>Y (.inl e)
              have h5:¬k=5:=λe=>Y (.inr e)
              simp only[if_neg h4,if_neg h5];exact qT
theorem qC {F:List bL}{fin:Nat->Prop}(J:mV F fin):∀(l:List Nd) (ss:List bL) (to:Nat),HQ F (bC l ss to).1 ss.length->Splits F fin (bC l ss to).2 to (pT l)
  | [],ss,to,hs=>by
    rw[bC];unfold pT;exact qT
  |x::r,ss,to,hs=>by
    rw[bC] at hs ⊢;unfold pT;have hl:=kH r ss to;have hl2:=gu x (bC r ss to).1 (bC r ss to).2;have I:=qC J r ss to (λi h1 I=>by rw[hs i h1 (by omega),nH x _ _ i I]);have h1:=nG J x (bC r ss to).1 (bC r ss to).2 (λi h1 I=>hs i (by omega) I);exact wm h1 I
theorem qD {F:List bL}{fin:Nat->Prop}(Z:mV F fin):∀(l:List Nd) (ss:List bL) (to:Nat),HQ F (aY l ss to).1 ss.length ->
    (∀n q w,q∈(aY l ss to).2->Acc F fin n q w->∃u v m,w=u++v/\n7 l u/\m<=n/\Acc F fin m to v)/\(∀u v m,n7 l u->Acc F fin m to v->∃n q,q∈(aY l ss to).2/\Acc F fin n q (u++v))
  | [],ss,to,hs=>by
    rw[aY];unfold n7;exact⟨λn q w h=>absurd h List.not_mem_nil,λu v m h=>False.elim h⟩
  |x::r,ss,to,hs=>by
    rw[aY] at hs ⊢;unfold n7;have hl:=gu x ss to;have hl2:=fP r (lay x ss to).1 to;have h1:=nG Z x ss to (λi h1 I=>by rw[hs i h1 (by simp only;omega)];exact rm r _ _ i I);have I:=qD Z r (lay x ss to).1 to (λi h1 I=>hs i (by omega) I);constructor
    · intro n q w J hw
      rcases List.mem_cons.1 J with rfl|J
      · obtain⟨u,v,m,a,b,c,d⟩:=h1.1 _ _ hw;exact⟨u,v,m,a,.inl b,c,d⟩
      · obtain⟨u,v,m,a,b,c,d⟩:=I.1 _ _ _ J hw;exact⟨u,v,m,a,.inr b,c,d⟩
    · rintro u v m (hu|hu) Y
      · obtain⟨n,U⟩:=h1.2 _ _ _ hu Y;exact⟨n,_,List.mem_cons_self,U⟩
      · obtain⟨n,q,J,U⟩:=I.2 _ _ _ hu Y;exact⟨n,q,List.mem_cons_of_mem _ J,U⟩
theorem qB {F:List bL}{fin:Nat->Prop}(I:mV F fin):∀(l:List Nd) (ss:List bL) (to:Nat),HQ F (cy l ss to).1 ss.length->Splits F fin (cy l ss to).2 to (l7 l)
  | [],ss,to,hs=>by
    rw[cy];unfold l7;exact qT
  |x::r,ss,to,hs=>by
    rw[cy] at hs ⊢;unfold l7;exact nG I x ss to hs
end
section
variable {F ss:List bL}{fin:Nat->Prop}{n to i st:Nat}{x:bL}{w:By}{todo:List Nat}{P:Nat->Nat->Prop}
inductive Kp (ss:List bL):Nat->Nat->Prop where
  |refl (i:Nat):Kp ss i i
  |step {i j k:Nat}{x:bL}:ss[i]? =some x->x.kind=0->j∈x.to->Kp ss j k->Kp ss i k
theorem Kp.snoc {j k:Nat}(h:Kp ss i j) (I:ss[j]? =some x) (hk:x.kind=0) (U:k∈x.to):Kp ss i k:=by
  induction h with
  |refl=>exact .step I hk U (.refl _)
  |step a b c _ J=>exact .step a b c (J I)
structure Kq (ss:List bL) (T todo:List Nat) (seen:List Bool):Prop where
  len:seen.length=ss.length
  inn:∀j∈todo,j<ss.length
  sound:∀i,(seen[i]? =some true\/i∈todo)->∃t∈T,Kp ss t i
  cl:∀(i:Nat) (x:bL),seen[i]? =some true->ss[i]? =some x->x.kind=0->∀j∈x.to,seen[j]? =some true\/j∈todo
  all:∀t∈T,seen[t]? =some true\/t∈todo
theorem EL {l:List Nat}(h:l.getLast? =some i):l=l.dropLast++[i]:=by
  obtain⟨h0,rfl⟩:=List.getLast?_eq_some_iff.1 h;simp
theorem ue {ss:List bL}{T:List Nat}(hg:Good ss):∀(n:Nat) (todo:List Nat) (seen:List Bool),todo.length+uJ ss seen<=n->Kq ss T todo seen->Kq ss T [] (jI ss n todo seen)
  | 0,todo,seen,hn,k=>by
    have:todo=[]:=List.length_eq_zero_iff.1 (by omega);subst this;exact k
  |n+1,todo,seen,hn,k=>by
    unfold jI;split
    · rename_i h;have:todo=[]:=List.getLast?_eq_none_iff.1 h;subst this;exact k
    · rename_i i h;have hsp:=EL h;have hlen:todo.length=todo.dropLast.length+1:=by rw[hsp];simp
      have hi:i∈todo:=by rw[hsp];simp
      have hmem:∀j,j∈todo->j∈todo.dropLast\/j=i:=λj hj=>by rw[hsp] at hj;simpa using hj
      have hsub:∀j,j∈todo.dropLast->j∈todo:=λj hj=>by rw[hsp];simp[hj]
      split
      · rename_i hs;refine ue hg n _ _ (by omega) ⟨k.len,λj hj=>k.inn j (hsub j hj),λj hj=>k.sound j (hj.imp id (hsub j)),λj x a b c d e=>?_,λt ht=>?_⟩
        · rcases k.cl j x a b c d e with h1|h1
          · exact .inl h1
          · rcases hmem d h1 with h2|rfl
            · exact .inr h2
            · exact .inl hs
        · rcases k.all t ht with h1|h1
          · exact .inl h1
          · rcases hmem t h1 with h2|rfl
            · exact .inr h2
            · exact .inl hs
      · rename_i hs;have hil:=k.inn i hi;obtain⟨x,hx⟩:∃x,ss[i]? =some x:=⟨_,List.getElem?_eq_getElem hil⟩
        have hf:seen[i]? =some false:=by
          obtain⟨b,hb⟩:∃b,seen[i]? =some b:=⟨_,List.getElem?_eq_getElem (by rw[k.len];exact hil)⟩
          cases b
          · exact hb
          · exact absurd hb hs
        have hp:=Bc ss seen i x hx hf;have hself:(seen.set i true)[i]? =some true:=by rw[List.getElem?_set_self (by rw[k.len];exact hil)]
        have hset:∀j,seen[j]? =some true->(seen.set i true)[j]? =some true:=λj hj=>by
          by_cases e:i=j
          · subst e;exact hself
          · rw[List.getElem?_set_ne e];exact hj
        have hget:∀j,(seen.set i true)[j]? =some true->j=i\/seen[j]? =some true:=λj hj=>by
          by_cases e:i=j
          · exact .inl e.symm
          · rw[List.getElem?_set_ne e] at hj;exact .inr hj
        rw[hx];simp only;obtain⟨t0,Nj,he0⟩:=k.sound i (.inr hi);have hxm:x∈ss:=List.mem_of_getElem? hx;generalize hnew:(if x.kind=0 then todo.dropLast++x.to else todo.dropLast)=new
        have hin:∀j,j∈new->j∈todo.dropLast\/(x.kind=0/\j∈x.to):=λj hj=>by
          subst hnew;split at hj
          · rename_i hk
            rcases List.mem_append.1 hj with h1|h1
            · exact .inl h1
            · exact .inr ⟨hk,h1⟩
          · exact .inl hj
        have hold:∀j,j∈todo.dropLast->j∈new:=λj hj=>by
          subst hnew;split
          · exact List.mem_append_left _ hj
          · exact hj
        have hbig:new.length<=todo.dropLast.length+x.to.length:=by
          subst hnew;split<;>simp
        refine ue hg n _ _ (by omega) ⟨by rw[List.length_set];exact k.len,λj hj=>?_,λj hj=>?_,λj y a b c d e=>?_,λt ht=>?_⟩
        · rcases hin j hj with h1|⟨_,h1⟩
          · exact k.inn j (hsub j h1)
          · exact hg x hxm j h1
        · rcases hj with h1|h1
          · rcases hget j h1 with rfl|h2
            · exact⟨t0,Nj,he0⟩
            · exact k.sound j (.inl h2)
          · rcases hin j h1 with h2|⟨hk,h2⟩
            · exact k.sound j (.inr (hsub j h2))
            · exact⟨t0,Nj,he0.snoc hx hk h2⟩
        · rcases hget j a with rfl|a
          · rw[hx] at b;cases b;refine .inr ?_;rw[if_pos c] at hnew;subst hnew;exact List.mem_append_right _ e
          · rcases k.cl j y a b c d e with h1|h1
            · exact .inl (hset d h1)
            · rcases hmem d h1 with h2|rfl
              · exact .inr (hold d h2)
              · exact .inl hself
        · rcases k.all t ht with h1|h1
          · exact .inl (hset t h1)
          · rcases hmem t h1 with h2|rfl
            · exact .inr (hold t h2)
            · exact .inl hself
theorem rF (hg:Good ss) (ht:∀j∈todo,j<ss.length) (j:Nat):j∈closed ss todo↔∃x,ss[j]? =some x/\x.kind≠0/\∃t∈todo,Kp ss t j:=by
  unfold closed;split
  · rename_i h;have:todo=[]:=List.length_eq_zero_iff.1 h;subst this;simp
  · have h0:∀i:Nat,(List.replicate ss.length false)[i]? ≠some true:=λi hi=>by rw[List.getElem?_replicate] at hi;split at hi<;>cases hi
    have U:Kq ss todo todo (List.replicate ss.length false):=⟨by simp,ht,λi hi=>hi.elim (λhi=>absurd hi (h0 i)) λhi=>⟨i,hi,.refl i⟩,λi x hi=>absurd hi (h0 i),λt h=>.inr h⟩
    have hi:=ue hg (todo.length+uJ ss (List.replicate ss.length false)) todo _ (Nat.le_refl _) U;generalize jI ss (todo.length+uJ ss (List.replicate ss.length false)) todo (List.replicate ss.length false)=out at hi;simp only[List.mem_filter,List.mem_range,Bool.and_eq_true,bne_iff_ne,ne_eq];constructor
    · rintro⟨hj,h1,Y⟩;obtain⟨x,I⟩:∃x,ss[j]? =some x:=⟨_,List.getElem?_eq_getElem hj⟩
      rw[I] at Y;have h1:out[j]? =some true:=by simpa using h1
      exact⟨x,I,by simpa using Y,hi.sound j (.inl h1)⟩
    · rintro⟨x,I,hk,t,J,he⟩
      have key:∀a b,Kp ss a b->out[a]? =some true->out[b]? =some true:=by
        intro a b he
        induction he with
        |refl=>exact id
        |step hy hk hm _ Z =>
          intro ha;refine Z ?_
          rcases hi.cl _ _ ha hy hk _ hm with h1|h1
          · exact h1
          · cases h1
      have h1:=key _ _ he (by
        rcases hi.all t J with h1|h1
        · exact h1
        · cases h1)
      refine⟨(List.getElem?_eq_some_iff.1 I).1,by rw[h1];rfl,by rw[I];simpa using hk⟩
theorem Acc.through {j:Nat}(h:Kp ss i j) (k:Acc ss fin n j w):∃m,Acc ss fin m i w:=by
  induction h with
  |refl=>exact⟨n,k⟩
  |step a b c _ I=>obtain⟨m,hm⟩:=I k;exact⟨m+1,.eps a b c hm⟩
theorem Acc.stop (Y:mV ss fin) (k:Acc ss fin n i w):∃j x,Kp ss i j/\ss[j]? =some x/\x.kind≠0/\∃m,Acc ss fin m j w:=by
  induction k with
  |done I=>obtain⟨x,U,hk⟩:=Y _ I;exact⟨_,x,.refl _,U,by omega,_,.done I⟩
  |eps a b c _ J=>obtain⟨j,x,he,hr⟩:=J;exact⟨j,x,.step a b c he,hr⟩
  |eat a b c d e _=>exact⟨_,_,.refl _,a,by omega,_,.eat a b c d e⟩
def zD (ss:List bL) (fin:Nat->Prop) (T:List Nat) (w:By):Prop:=∃j∈T,∃n,Acc ss fin n j w
theorem ym (hf:mV ss fin) (Y:Good ss) (U:∀j∈todo,j<ss.length) (w:By):zD ss fin (closed ss todo) w↔zD ss fin todo w:=by
  constructor
  · rintro⟨j,Z,n,h⟩;obtain⟨x,J,hk,t,I,he⟩:=(rF Y U j).1 Z;exact⟨t,I,h.through he⟩
  · rintro⟨t,I,n,h⟩;obtain⟨j,x,he,J,hk,hm⟩:=h.stop hf;exact⟨j,(rF Y U j).2 ⟨x,J,hk,t,I,he⟩,hm⟩
theorem pX (ss:List bL) (c:UInt8) (k:Nat):∀(l a:List Nat),k∈stepG ss c l a↔k∈a\/∃j∈l,∃x,ss[j]? =some x/\j8 x c=true/\k∈x.to
  | [],a=>by simp[stepG]
  |j::r,a=>by
    rw[stepG,pX ss c k r];cases I:ss[j]? with
    |none=>simp[I]
    |some x =>
      simp only;cases J:j8 x c with
      |true=>simp[I,J,or_assoc]
      |false=>simp[I,J]
def Flat (ss:List bL) (T:List Nat):Prop:=∀j∈T,∃x,ss[j]? =some x/\x.kind≠0
theorem pH (Y:Good ss) (J:∀j∈todo,j<ss.length):Flat ss (closed ss todo):=λj U=>by
  obtain⟨x,I,hk,_⟩:=(rF Y J j).1 U;exact⟨x,I,hk⟩
theorem CA (U:Good ss) (c:UInt8) (T:List Nat):∀j∈stepG ss c T [],j<ss.length:=λj J=>by
  rcases (pX ss c j T []).1 J with h|⟨i,_,x,I,_,hm⟩
  · cases h
  · exact U x (List.mem_of_getElem? I) j hm
theorem wk (I:Good ss) (c:UInt8) (T:List Nat):Flat ss (cT ss c T):=by
  unfold cT;split
  · intro j J;cases J
  · exact pH I (CA I c T)
theorem GB (hf:mV ss fin) (hg:Good ss){T:List Nat}(hT:Flat ss T) (c:UInt8) (w:By):zD ss fin (cT ss c T) w↔zD ss fin T (c::w):=by
  unfold cT;split
  · rename_i h0;constructor
    · rintro⟨j,I,_⟩;cases I
    · rintro⟨j,I,_⟩;obtain⟨x,J,_⟩:=hT j I;have:=(List.getElem?_eq_some_iff.1 J).1;omega
  · rw[ym hf hg (CA hg c T)];constructor
    · rintro⟨k,hk,n,h⟩
      rcases (pX ss c k T []).1 hk with h1|⟨j,I,x,J,Y,hm⟩
      · cases h1
      · simp only[j8,Bool.and_eq_true,decide_eq_true_eq] at Y;exact⟨j,I,n+1,.eat J Y.1 Y.2 hm h⟩
    · rintro⟨j,I,n,h⟩;obtain⟨x,J,hk⟩:=hT j I;cases h with
      |eps U aa _ _=>rw[J] at U;cases U;exact absurd aa hk
      |eat U Z hc hm h=>exact⟨_,(pX ss c _ T []).2 (.inr ⟨j,I,_,U,by simp[j8,Z,hc],hm⟩),_,h⟩
def oz (ss:List bL) (r:Nat) (q:Nat):Prop:=∃x,ss[q]? =some x/\x.kind=2/\x.rule=r
theorem vV (ss:List bL) (r:Nat):mV ss (oz ss r):=λ_ ⟨x,I,hk,_⟩=>⟨x,I,hk⟩
theorem Kg {r:Nat}{T:List Nat}(hT:Flat ss T):zD ss (oz ss r) T []↔∃j∈T,oz ss r j:=by
  constructor
  · rintro⟨j,I,n,h⟩;obtain⟨x,Z,hk⟩:=hT j I;cases h with
    |done J=>exact⟨j,I,J⟩
    |eps Y U _ _=>rw[Z] at Y;cases Y;exact absurd U hk
  · rintro⟨j,I,J⟩;exact⟨j,I,0,.done J⟩
def pV (p:Nat->Prop) (r:Int):Prop:=(r= -1/\∀i,¬p i)\/∃n:Nat,r=n/\p n/\∀i,p i->n<=i
theorem yI (ss:List bL):∀(l:List Nat) (b:Int) (p:Nat->Prop),pV p b->pV (λr=>p r\/∃j∈l,oz ss r j) (tg ss l b)
  | [],b,p,h=>by
    rw[tg]
    rcases h with ⟨rfl,h1⟩|⟨n,rfl,h1,Z⟩
    · exact .inl ⟨rfl,λi h=>by rcases h with h|⟨_,h,_⟩;exact h1 i h;cases h⟩
    · exact .inr ⟨n,rfl,.inl h1,λi h=>by rcases h with h|⟨_,h,_⟩;exact Z i h;cases h⟩
  |j::l,b,p,h=>by
    rw[tg]
    have key:∀b',pV (λr=>p r\/oz ss r j) b'->pV (λr=>p r\/∃k∈j::l,oz ss r k) (tg ss l b'):=λb' ac=>by
      have:=yI ss l b' _ ac
      have e:(λr=>(p r\/oz ss r j)\/∃k∈l,oz ss r k)=(λr=>p r\/∃k∈j::l,oz ss r k):=by
        funext r;simp[or_assoc]
      rwa [e] at this
    have no:(∀r,¬oz ss r j)->pV (λr=>p r\/oz ss r j) b:=λaa=>by
      have e:(λr=>p r\/oz ss r j)=p:=by funext r;simp[aa r]
      rw[e];exact h
    cases hx:ss[j]? with
    |none=>exact key b (no λr ⟨x,U,_⟩=>by rw[hx] at U;cases U)
    |some x =>
      simp only
      by_cases hk:x.kind=2
      · have I:∀r,oz ss r j↔x.rule=r:=λr=>⟨fun⟨y,J,_,hr⟩=>by rw[hx] at J;cases J;exact hr,λhr=>⟨x,hx,hk,hr⟩⟩
        by_cases Y:tf x b=true
        · rw[if_pos Y];refine key _ (.inr ⟨x.rule,rfl,.inr ((I _).2 rfl),λi hi=>?_⟩);simp only[tf,decide_eq_true_eq] at Y
          rcases hi with hi|hi
          · rcases h with ⟨rfl,h1⟩|⟨n,rfl,h1,Z⟩
            · exact absurd hi (h1 i)
            · have:=Z i hi;omega
          · rw[(I i).1 hi];exact Nat.le_refl _
        · rw[if_neg Y];refine key _ ?_;simp only[tf,decide_eq_true_eq] at Y
          rcases h with ⟨rfl,h1⟩|⟨n,rfl,h1,Z⟩
          · exact absurd ⟨hk,.inl (by decide)⟩ Y
          · refine .inr ⟨n,rfl,.inl h1,λi hi=>?_⟩
            rcases hi with hi|hi
            · exact Z i hi
            · have:=(I i).1 hi;omega
      · rw[if_neg (by simp[tf,hk])];exact key b (no λr ⟨y,J,ab,_⟩=>by rw[hx] at J;cases J;exact hk ab)
def lP (ss:List bL) (st:Nat) (w:By):List Nat:=w.foldl (λT c=>cT ss c T) (cB ss st)
theorem GK (J:Good ss) (hst:st<ss.length) (w:By):Flat ss (lP ss st w):=by
  have h0:Flat ss (cB ss st):=by
    unfold cB;split
    · intro j I;cases I
    · exact pH J (λj I=>by simp at I;omega)
  unfold lP;generalize cB ss st=T at h0
  induction w generalizing T with
  |nil=>exact h0
  |cons c w U=>exact U _ (wk J c T)
theorem II (U:mV ss fin) (I:Good ss) (hst:st<ss.length) (w v:By):zD ss fin (lP ss st w) v↔∃n,Acc ss fin n st (w++v):=by
  have h0:Flat ss (cB ss st)/\∀v,zD ss fin (cB ss st) v↔∃n,Acc ss fin n st v:=by
    unfold cB;rw[if_neg (by omega)];have J:∀j∈[st],j<ss.length:=λj Z=>by simp at Z;omega
    refine⟨pH I J,λv=>?_⟩;rw[ym U I J];simp[zD]
  unfold lP
  have key:∀(w:By) (T:List Nat),Flat ss T->(zD ss fin (w.foldl (λT c=>cT ss c T) T) v↔zD ss fin T (w++v)):=by
    intro w
    induction w with
    |nil=>intro T _;rfl
    |cons c w Y =>
      intro T hT;rw[List.foldl_cons,Y _ (wk I c T),GB U I hT];rfl
  rw[key w _ h0.1,h0.2]
theorem zA (J:Good ss) (I:st<ss.length) (w:By):pV (λr=>∃n,Acc ss (oz ss r) n st w) (bu ss (lP ss st w)):=by
  unfold bu;rw[if_neg (by omega)];have h:=yI ss (lP ss st w) (-1) (λ_=>False) (.inl ⟨rfl,λ_ h=>h⟩)
  have e:(λr=>False\/∃j∈lP ss st w,oz ss r j)=(λr=>∃n,Acc ss (oz ss r) n st w):=by
    funext r
    have:=II (vV ss r) J I w [];rw[Kg (GK J I w),List.append_nil] at this;simpa using this
  rw[e] at h;exact h
def fL (ss:List bL):Nat:=(ss.map λx=>x.to.length+1).sum
theorem gQ (a b:List bL):fL (a++b)=fL a+fL b:=by simp[fL]
theorem Cr:∀(ss:List bL) (i:Nat) (y x:bL),ss[i]? =some y->fL (ss.set i x)+y.to.length=fL ss+x.to.length
  | [],i,y,x,h=>by simp at h
  |z::r,0,y,x,h=>by simp at h;subst h;simp[fL];omega
  |z::r,i+1,y,x,h=>by have:=Cr r i y x (by simpa using h);simp[fL] at *;omega
theorem IT:∀(ss:List bL) (seen:List Bool),uJ ss seen<=fL ss
  | [],_=>by simp[uJ]
  |x::r,[]=>by simp[uJ]
  |x::r,b::s=>by
    have:=IT r s;simp only[uJ,fL,List.map_cons,List.sum_cons] at *;split<;>omega
end
mutual
theorem vS:∀(x:Nd) (ss:List bL) (to:Nat),fL (lay x ss to).1+1<=fL ss+4*js x
  |.mk k s kids,ss,to=>by
    rw[lay];simp only[js];split
    · rw[gQ];simp[fL];omega
    · split
      · have:=xI kids ss to;omega
      · split
        · have:=xK kids ss to;have hl:=oX kids ss to;simp only[gQ];simp[fL] at *;omega
        · split
          · have:=xH kids ss to;simp only[gQ];simp[fL] at *;omega
          · split
            · have:=xH kids (ss++[⟨0,0,[],0⟩]) ss.length;have h2:=Cr (cy kids (ss++[⟨0,0,[],0⟩]) ss.length).1 ss.length ⟨0,0,[],0⟩ ⟨0,0,[(cy kids (ss++[⟨0,0,[],0⟩]) ss.length).2,to],0⟩ (by rw[rj kids _ _ _ (by simp)];simp);rw[gQ] at this;simp[fL] at *;omega
            · simp;omega
theorem xI:∀(l:List Nd) (ss:List bL) (to:Nat),fL (bC l ss to).1<=fL ss+4*eR l
  | [],ss,to=>by simp[bC]
  |x::r,ss,to=>by
    rw[bC];have h1:=xI r ss to;have h2:=vS x (bC r ss to).1 (bC r ss to).2;simp only[eR];omega
theorem xK:∀(l:List Nd) (ss:List bL) (to:Nat),fL (aY l ss to).1+l.length<=fL ss+4*eR l
  | [],ss,to=>by simp[aY]
  |x::r,ss,to=>by
    rw[aY];have h1:=vS x ss to;have h2:=xK r (lay x ss to).1 to;simp only[eR,List.length_cons];omega
theorem xH:∀(l:List Nd) (ss:List bL) (to:Nat),fL (cy l ss to).1<=fL ss+4*eR l
  | [],ss,to=>by simp[cy]
  |x::r,ss,to=>by
    rw[cy];have h1:=vS x ss to;simp only[eR];omega
end
section
variable {F ss:List bL}{fin:Nat->Prop}{n to i st:Nat}{x:bL}{w:By}{todo:List Nat}{P:Nat->Nat->Prop}
theorem Good.append {a b:List bL}(Y:Good a) (U:∀x∈b,∀j∈x.to,j<(a++b).length):Good (a++b):=λx J j I=>by
  rcases List.mem_append.1 J with h|h
  · have:=Y x h j I;simp;omega
  · exact U x h j I
theorem Good.set {a:List bL}(Y:Good a){i:Nat}{y:bL}(J:∀j∈y.to,j<a.length):Good (a.set i y):=λx U j I=>by
  rw[List.length_set]
  rcases List.mem_or_eq_of_mem_set U with h|rfl
  · exact Y x h j I
  · exact J j I
end
mutual
theorem sE:∀(x:Nd) (ss:List bL) (to:Nat),Good ss->to<ss.length->Good (lay x ss to).1/\(lay x ss to).2<(lay x ss to).1.length
  |.mk k s kids,ss,to,U,Y=>by
    rw[lay];split
    · exact⟨U.append (by intro x J j I;simp at J;subst J;simp at I;subst I;simp;omega),by simp⟩
    · split
      · exact uM kids ss to U Y
      · split
        · have h:=uP kids ss to U Y;exact⟨h.1.append (by intro x J j I;simp at J;subst J;have:=h.2 j I;simp;omega),by simp⟩
        · split
          · have h:=uL kids ss to U Y;have hl:=gJ kids ss to;exact⟨h.1.append (by intro x J j I;simp at J;subst J;simp at I;simp;rcases I with rfl|rfl<;>omega),by simp⟩
          · split
            · have h:=uL kids (ss++[⟨0,0,[],0⟩]) ss.length (U.append (by intro x J j I;simp at J;subst J;cases I)) (by simp);have hl:=gJ kids (ss++[⟨0,0,[],0⟩]) ss.length;simp only[List.length_append,List.length_singleton] at hl;refine⟨h.1.set (by intro j I;simp at I;rcases I with rfl|rfl;exact h.2;omega),?_⟩;simp only[List.length_set];split
              · exact h.2
              · omega
            · exact⟨U,Y⟩
theorem uM:∀(l:List Nd) (ss:List bL) (to:Nat),Good ss->to<ss.length->Good (bC l ss to).1/\(bC l ss to).2<(bC l ss to).1.length
  | [],ss,to,J,I=>by rw[bC];exact⟨J,I⟩
  |x::r,ss,to,J,I=>by
    rw[bC];have h1:=uM r ss to J I;exact sE x _ _ h1.1 h1.2
theorem uP:∀(l:List Nd) (ss:List bL) (to:Nat),Good ss->to<ss.length->Good (aY l ss to).1/\∀j∈(aY l ss to).2,j<(aY l ss to).1.length
  | [],ss,to,J,U=>by rw[aY];exact⟨J,λj I=>by cases I⟩
  |x::r,ss,to,J,U=>by
    rw[aY];have h1:=sE x ss to J U;have hl:=gu x ss to;have Y:=uP r (lay x ss to).1 to h1.1 (by omega);have hl2:=fP r (lay x ss to).1 to;refine⟨Y.1,λj I=>?_⟩
    rcases List.mem_cons.1 I with rfl|I
    · simp only;omega
    · exact Y.2 j I
theorem uL:∀(l:List Nd) (ss:List bL) (to:Nat),Good ss->to<ss.length->Good (cy l ss to).1/\(cy l ss to).2<(cy l ss to).1.length
  | [],ss,to,J,I=>by rw[cy];exact⟨J,I⟩
  |x::r,ss,to,J,I=>by rw[cy];exact sE x ss to J I
end
section
variable {F ss:List bL}{fin:Nat->Prop}{n to i st:Nat}{x:bL}{w:By}{todo:List Nat}{P:Nat->Nat->Prop}
structure O8 (i:Nat) (rules:List By) (ss:List bL) (t:List Nat) (ss':List bL) (t':List Nat):Prop where
  pre:∀j,j<ss.length->ss'[j]? =ss[j]?
  len:ss.length<=ss'.length/\ss'.length<=ss.length+402*rules.length
  tot:fL ss'<=fL ss+1605*rules.length
  good:Good ss->(∀j∈t,j<ss.length)->Good ss'/\∀j∈t',j<ss'.length
  starts:∃t2,t'=t++t2/\t2.length=rules.length/\∀k s,rules[k]? =some s->(aU s).2=0/\∃a b,t2[k]? =some b/\ss.length<=a/\ss'[a]? =some ⟨2,0,[],i+k⟩/\∀F fin,HQ F ss' ss.length->mV F fin->Splits F fin b a (rL (aU s).1)
theorem xm:∀(rules:List By) (i:Nat) (ss:List bL) (t:List Nat) (ss':List bL) (t':List Nat),jG i rules ss t= .inr (ss',t')->O8 i rules ss t ss' t'
  | [],i,ss,t,ss',t',h=>by
    rw[jG] at h;cases h;exact⟨λ_ _=>rfl,by simp,by simp,λa b=>⟨a,b⟩,[],by simp,rfl,λk s h=>by simp at h⟩
  |s::r,i,ss,t,ss',t',h=>by
    rw[jG] at h;split at h
    · cases h
    · rename_i he;have he:(aU s).2=0:=by simpa using he
      have hsm:=ig he;have J:=xm r _ _ _ _ _ h;have I:=nH (aU s).1 (ss++[⟨2,0,[],i⟩]) ss.length;have hlen:=gu (aU s).1 (ss++[⟨2,0,[],i⟩]) ss.length;have Z:=vS (aU s).1 (ss++[⟨2,0,[],i⟩]) ss.length;simp only[List.length_append,List.length_singleton,gQ] at I hlen Z;have hL:fL [(⟨2,0,[],i⟩:bL)]=1:=by simp[fL]
      generalize U:lay (aU s).1 (ss++[⟨2,0,[],i⟩]) ss.length=ly at *;obtain⟨t2,qu,aa,ab⟩:=J.starts;refine⟨λj hj=>?_,⟨?_,?_⟩,?_,λhg ht=>?_,ly.2::t2,by simp[qu],by simp[aa],λk s' hk=>?_⟩
      · rw[J.pre j (by omega),I j (by omega),List.getElem?_append_left hj]
      · have:=J.len.1;omega
      · have:=J.len.2;simp only[List.length_cons];omega
      · have:=J.tot;simp only[List.length_cons];omega
      · have Y:=sE (aU s).1 (ss++[⟨2,0,[],i⟩]) ss.length (hg.append (by intro x hx j hj;simp at hx;subst hx;cases hj)) (by simp);rw[U] at Y
        exact J.good Y.1 (λj hj=>by
          rcases List.mem_append.1 hj with h1|h1
          · have:=ht j h1;omega
          · have:j=ly.2:=by simpa using h1
            rw[this];exact Y.2)
      · cases k with
        |zero =>
          simp at hk;subst hk;refine⟨he,ss.length,ly.2,rfl,Nat.le_refl _,?_,λF fin hS hF=>?_⟩
          · rw[J.pre _ (by omega),I _ (by omega)];simp
          · have:=nG hF (aU s).1 (ss++[⟨2,0,[],i⟩]) ss.length (λj h1 h2=>by
              rw[U] at h2 ⊢;simp only[List.length_append,List.length_singleton] at h1;rw[hS j (by omega) (by have:=J.len.1;omega)];exact J.pre j h2)
            rwa [U] at this
        |succ k =>
          obtain⟨h0,a,b,hb,hla,ha,ac⟩:=ab k s' (by simpa using hk);exact⟨h0,a,b,by simpa using hb,by omega,by rw[ha];simp;omega,λF fin hS hF=>ac F fin (λj h1 h2=>hS j (by omega) h2) hF⟩
structure Made (rules:List By) (ss:List bL) (st:Nat):Prop where
  good:Good ss
  stl:st<ss.length
  len:ss.length<=30000
  tot:fL ss<=110000
  num:rules.length<=64
  lng:∀r w,(∃n,Acc ss (oz ss r) n st w)↔∃s,rules[r]? =some s/\rL (aU s).1 w
theorem eZ {rules:List By}(h:eo rules= .inr (ss,st)):Made rules ss st:=by
  unfold eo at h;split at h
  · cases h
  · rename_i hn;split at h
    · cases h
    · rename_i ss0 t hm;split at h
      · cases h
      · cases h;have k:=xm _ _ _ _ _ _ hm;obtain⟨t2,qu,htl,hst⟩:=k.starts;have ht:t=t2:=by simpa using qu
        subst ht;have hl:=k.len.2;have htot:=k.tot;have hgd:=k.good (by intro x hx;cases hx) (by intro j hj;cases hj);simp only[List.length_nil] at hl;have h0:fL ([]:List bL)=0:=rfl;have hF:(ss0++[⟨0,0,t,0⟩])[ss0.length]? =some ⟨0,0,t,0⟩:=by simp
        have hS:HQ (ss0++[⟨0,0,t,0⟩]) ss0 ([]:List bL).length:=λi _ h2=>List.getElem?_append_left h2
        refine⟨hgd.1.append (by intro x hx j hj;simp at hx;subst hx;have:=hgd.2 j hj;simp;omega),by simp,by simp;omega,?_,by omega,λr w=>?_⟩
        · have hq:fL [(⟨0,0,t,0⟩:bL)]=t.length+1:=by simp[fL]
          rw[gQ,hq];omega
        · constructor
          · rintro⟨n,hw⟩;obtain⟨m,q',_,hq,hw'⟩:=hw.fork (vV _ r) hF rfl;obtain⟨k',hk'⟩:=List.getElem?_of_mem hq;have hkl:k'<t.length:=(List.getElem?_eq_some_iff.1 hk').1;obtain⟨s,hs⟩:∃s,rules[k']? =some s:=⟨_,List.getElem?_eq_getElem (by omega)⟩
            obtain⟨_,a,b,hb,_,ha,hsp⟩:=hst k' s hs;rw[hk'] at hb;cases hb;obtain⟨u,v,m',rfl,hu,_,hv⟩:=(hsp _ _ hS (vV _ r)).1 _ _ hw';have ha':(ss0++[(⟨0,0,t,0⟩:bL)])[a]? =some ⟨2,0,[],0+k'⟩:=by rw[hS a (Nat.zero_le _) (List.getElem?_eq_some_iff.1 ha).1,ha]
            cases hv with
            |done hfin =>
              obtain⟨x,hx,_,hr⟩:=hfin;rw[ha'] at hx;cases hx;simp only[Nat.zero_add] at hr;subst hr;exact⟨s,hs,by rw[List.append_nil];exact hu⟩
            |eps hx hk _ _=>rw[ha'] at hx;cases hx;cases hk
            |eat hx hk _ _ _=>rw[ha'] at hx;cases hx;cases hk
          · rintro⟨s,hs,hw⟩;obtain⟨_,a,b,hb,_,ha,hsp⟩:=hst r s hs;have ha':(ss0++[(⟨0,0,t,0⟩:bL)])[a]? =some ⟨2,0,[],0+r⟩:=by rw[hS a (Nat.zero_le _) (List.getElem?_eq_some_iff.1 ha).1,ha]
            obtain⟨n,hn⟩:=(hsp _ _ hS (vV _ r)).2 w [] 0 hw (.done ⟨_,ha',rfl,by simp⟩);rw[List.append_nil] at hn;exact⟨n+1,.eps (q':=b) hF rfl (show b∈t from List.mem_of_getElem? hb) hn⟩
theorem AU {f:Nat->Nat}:∀{a b:List Nat},a.Sublist b->(a.map f).sum<=(b.map f).sum
  |_,_,.slnil=>by simp
  |_,_,.cons _ h=>by have:=AU (f:=f) h;simp;omega
  |_,_,.cons_cons _ h=>by have:=AU (f:=f) h;simp;omega
theorem FY:∀ss:List bL,(ss.map λx=>x.to.length).sum<=fL ss
  | []=>by simp[fL]
  |x::r=>by have:=FY r;simp[fL] at *;omega
theorem GR (ss:List bL):((List.range ss.length).map λi=>match ss[i]? with|some x=>x.to.length|none=>0).sum<=fL ss:=by
  have:((List.range ss.length).map λi=>match ss[i]? with|some x=>x.to.length|none=>0)=ss.map λx=>x.to.length:=by
    apply List.ext_getElem
    · simp
    · intro i h1 I;simp at I;simp[I]
  rw[this];exact FY ss
theorem zN (ss:List bL) (c:UInt8):∀(l a:List Nat),(stepG ss c l a).length<=a.length+(l.map λi=>match ss[i]? with|some x=>x.to.length|none=>0).sum
  | [],a=>by simp[stepG]
  |j::r,a=>by
    rw[stepG];refine Nat.le_trans (zN ss c r _) ?_;simp only[List.map_cons,List.sum_cons];cases ss[j]? with
    |none=>simp
    |some x=>simp only;split<;>simp<;>omega
theorem GC (c:UInt8){now:List Nat}(h:now.Sublist (List.range ss.length)):(stepG ss c now []).length<=fL ss:=by
  have h1:=zN ss c now [];have h2:=AU (f:=λi=>match ss[i]? with|some x=>x.to.length|none=>0) h;have h3:=GR ss;simp only[List.length_nil] at h1;omega
def IsMatch (P:Nat->Nat->Prop) (n:Nat) (o:Int×Int):Prop :=
  (o=(0,-1)/\∀k r,k<=n->¬P k r)\/∃k r:Nat,o=((k:Int),(r:Int))/\k<=n/\P k r/\(∀k' r',k'<=n->P k' r'->k'<=k)/\∀r',P k r'->r<=r'
theorem IsMatch.uniq {Q:Nat->Nat->Prop}{a b:Int×Int}(ha:IsMatch P n a) (hb:IsMatch Q n b) (h:∀k r,k<=n->(P k r↔Q k r)):a=b:=by
  rcases ha with ⟨rfl,h1⟩|⟨k,r,rfl,hk,U,h1,h2⟩<;>rcases hb with ⟨rfl,Y⟩|⟨k',Z,rfl,I,J,Y,h4⟩
  · rfl
  · exact absurd ((h _ _ I).2 J) (h1 _ _ I)
  · exact absurd ((h _ _ hk).1 U) (Y _ _ hk)
  · have e1:=h1 _ _ I ((h _ _ I).2 J);have e2:=Y _ _ hk ((h _ _ hk).1 U);have e:k=k':=by omega
    subst e;have e3:=h2 _ ((h _ _ hk).2 J);have e4:=h4 _ ((h _ _ hk).1 U);have e:r=Z:=by omega
    subst e;rfl
def pN (ac:Nat->Int):Nat->Nat->Int×Int->Int×Int
  | 0,k,b=>if 0<=ac k then ((k:Int),ac k) else b
  |n+1,k,b=>pN ac n (k+1) (if 0<=ac k then ((k:Int),ac k) else b)
def rM (P:Nat->Nat->Prop) (m:Nat) (o:Int×Int):Prop :=
  (o=(0,-1)/\∀k r,k<m->¬P k r)\/∃k r:Nat,o=((k:Int),(r:Int))/\k<m/\P k r/\(∀k' r',k'<m->P k' r'->k'<=k)/\∀r',P k r'->r<=r'
theorem rM.next {m:Nat}{o:Int×Int}{a:Int}(h:rM P m o) (ha:pV (P m) a):rM P (m+1) (if 0<=a then ((m:Int),a) else o):=by
  rcases ha with ⟨rfl,h1⟩|⟨r,rfl,h1,h2⟩
  · rw[if_neg (by decide)]
    rcases h with ⟨rfl,Y⟩|⟨k,r,rfl,hk,J,Y,h4⟩
    · exact .inl ⟨rfl,λk r hk J=>by
        by_cases e:k=m
        · subst e;exact h1 _ J
        · exact Y k r (by omega) J⟩
    · exact .inr ⟨k,r,rfl,by omega,J,λk' Z U I=>by
        by_cases e:k'=m
        · subst e;exact absurd I (h1 _)
        · exact Y k' Z (by omega) I,h4⟩
  · rw[if_pos (by omega)];exact .inr ⟨m,r,rfl,by omega,h1,λk' Z U _=>by omega,h2⟩
theorem yw {P:Nat->Nat->Prop}{ac:Nat->Int}:∀(n k:Nat) (b:Int×Int),rM P k b->(∀j,k<=j->j<=k+n->pV (P j) (ac j))->rM P (k+n+1) (pN ac n k b)
  | 0,k,b,h,I=>by rw[pN];exact h.next (I k (Nat.le_refl _) (by omega))
  |n+1,k,b,h,I=>by
    rw[pN];have:=yw n (k+1) _ (h.next (I k (Nat.le_refl _) (by omega))) (λj h1 h2=>I j (by omega) (by omega))
    rwa [show k+(n+1)+1=k+1+n+1 by omega]
theorem rM.match {o:Int×Int}(h:rM P (n+1) o):IsMatch P n o:=by
  rcases h with ⟨rfl,h1⟩|⟨k,r,rfl,hk,J,h1,U⟩
  · exact .inl ⟨rfl,λk r hk=>h1 k r (by omega)⟩
  · exact .inr ⟨k,r,rfl,by omega,J,λk' I hk'=>h1 k' I (by omega),U⟩
theorem GA (ss:List bL) (c:UInt8):cT ss c []=[]:=by simp[cT,stepG,closed]
theorem uH (ss:List bL) (st:Nat) (a b:By):lP ss st (a++b)=b.foldl (λT c=>cT ss c T) (lP ss st a):=by simp[lP,List.foldl_append]
theorem FE (ss:List bL):∀w:By,w.foldl (λT c=>cT ss c T) ([]:List Nat)=[]
  | []=>rfl
  |c::w=>by rw[List.foldl_cons,GA,FE ss w]
theorem yu {ac:Nat->Int}:∀(n k:Nat) (b:Int×Int),(∀j,k<=j->j<=k+n->ac j<0)->pN ac n k b=b
  | 0,k,b,h=>by rw[pN,if_neg (by have:=h k (Nat.le_refl _) (by omega);omega)]
  |n+1,k,b,h=>by
    rw[pN,if_neg (by have:=h k (Nat.le_refl _) (by omega);omega)];exact yu n (k+1) b (λj h1 h2=>h j (by omega) (by omega))
theorem Dd:∀(l a:By) (b:Int×Int),ku ss l (lP ss st a) a.length b=pN (λk=>bu ss (lP ss st ((a++l).take k))) l.length a.length b:=by
  have none_:∀(l a:By) (b:Int×Int),lP ss st a=[]->ku ss l (lP ss st a) a.length b=pN (λk=>bu ss (lP ss st ((a++l).take k))) l.length a.length b:=by
    intro l a b h;rw[xh (by rw[h];rfl),yu];intro j h1 h2;have:(a++l).take j=a++l.take (j-a.length):=by rw[List.take_append,List.take_of_length_le h1]
    rw[this,uH,h,FE];unfold bu;split
    · decide
    · simp[tg]
  intro l
  induction l with
  |nil =>
    intro a b
    by_cases h:lP ss st a=[]
    · exact none_ [] a b h
    · rw[ku,if_neg (by simpa using h),List.length_nil,pN];simp
  |cons c r I =>
    intro a b
    by_cases h:lP ss st a=[]
    · exact none_ (c::r) a b h
    · rw[ku,if_neg (by simpa using h)];simp only[List.length_cons,pN];have h1:=I (a++[c]) (if 0<=bu ss (lP ss st a) then ((a.length:Int),bu ss (lP ss st a)) else b);rw[uH] at h1;simp only[List.foldl_cons,List.foldl_nil,List.length_append,List.length_singleton,List.append_assoc,List.singleton_append] at h1;rw[h1];have e:(a++c::r).take a.length=a:=by simp
      rw[e]
theorem uK {rules:List By}(k:Made rules ss st) (l:By):IsMatch (λn r=>∃s,rules[r]? =some s/\rL (aU s).1 (l.take n)) l.length (dN ss st l):=by
  have hst:=k.stl;unfold dN;rw[if_neg (by omega)];have h:=Dd (ss:=ss) (st:=st) l [] (0,-1);have e:lP ss st []=cB ss st:=rfl;rw[e] at h;simp only[List.length_nil,List.nil_append] at h;rw[h]
  have:=yw (P:=λn r=>∃s,rules[r]? =some s/\rL (aU s).1 (l.take n)) (ac:=λk=>bu ss (lP ss st (l.take k))) l.length 0 (0,-1) (.inl ⟨rfl,λk r hk=>by omega⟩) (λj _ _=>by
    have h1:=zA k.good k.stl (l.take j)
    have e:(λr=>∃n,Acc ss (oz ss r) n st (l.take j))=(λr=>∃s,rules[r]? =some s/\rL (aU s).1 (l.take j)):=by
      funext r;exact propext (k.lng r _)
    rw[e] at h1;exact h1)
  rw[Nat.zero_add] at this;exact this.match
end
end Go.Proofs.YtnjahnbpnpkmhaaGreatDoor
namespace Go.Proofs.YtnjahnbpnpkmhaaGreatDoor
open Go Go.Lw
set_option maxRecDepth 20000
def Na (h:aq) (p:Value) (rules:List By):Prop:=∃(O:Nat->Prop) (nb:Nat) (v:Value) (ss:List bL) (st:Nat),p= .pointer (some ⟨nb,0,none⟩)/\cv h O nb v ss st/\eo rules= .inr (ss,st)
def LY (rules:List By):Int:=match eo rules with|.inl e=>e|.inr _=>0
def oW (rules:List By) (s:By) (a:Int):Int×Int:=match eo rules with|.inl _=>(0,-1)|.inr (ss,st)=>xj ss st s a
theorem G6 {h:aq}{lim:Nat}(hg:Sg h lim) (J:lim<=h.size){Y:Value}{rules:List By}(hr:aL oA h (λ_=>False) Y rules) (U:∀s∈rules,s.length<=1000000) :
    au Tryz.prog 23 #[Y] h (bK λr h'=>(∃p,r= .tuple #[p,.int .i64 (LY rules)]/\((∃e,eo rules= .inl e/\p= .pointer none)\/Na h' p rules))/\aj h h') :=
  (EF hg J hr U).ret λr h' k=>by
    obtain⟨I,Z⟩:=k;refine⟨?_,Z⟩;unfold Aw at I;unfold LY;cases hm:eo rules with
    |inl e=>rw[hm] at I;exact⟨_,I,.inl ⟨e,rfl,rfl⟩⟩
    |inr q =>
      obtain⟨ss,st⟩:=q;rw[hm] at I;obtain⟨nb,v,h1,_,h3⟩:=I;exact⟨_,h1,.inr ⟨_,nb,v,ss,st,rfl,h3,hm⟩⟩
theorem Dg {rules:List By}{ss:List bL}{st:Nat}(k:Made rules ss st):ss.length<=1000000/\1+uJ ss (List.replicate ss.length false)<=1000000/\∀c now,List.Sublist now (List.range ss.length)->(stepG ss c now []).length+uJ ss (List.replicate ss.length false)<=1000000:=by
  have h1:=k.len;have h2:=k.tot;have h3:=IT ss (List.replicate ss.length false);refine⟨by omega,by omega,λc now hs=>?_⟩;have:=GC c hs;omega
theorem lits {h:aq}(l:List By) (n:Nat) (I:l.length=n) (hm:n<=maxLen):aL oA (h.push (.cells (l.map λs=>Value.string (bs s)).toArray 9)) (λ_=>False) (.slice (some ⟨h.size,0,none⟩) n n) l :=
  bN.read (h1:=λ_=>rfl) (iA (λs=>.string (bs s)) h 9 l n I hm h.size (Nat.le_refl _) rfl) (λ_ _ k=>k)
end Go.Proofs.YtnjahnbpnpkmhaaGreatDoor
