/- Part 7. -/
import Derived.Lib.Builder
import Derived.Lib.AppendStr
import Derived.Lib.UnsafeStr
import Derived.Laws.Externs
import Derived.Laws.StructEq
import Derived.Test.YtnjahnbpnpkmhaaGreatDoorQf

namespace Go.Lw
open Go.RowKit
section
variable {h:aq}{b:Nat}{t e:TypeId}{cs:List Value}{j:TypeInfo}{x:Operand}{v:Value}{l:List UInt8}
section
variable {P:Program}{ρ:Env}{h:aq}{dst:Option Nat}{ty:TypeId}{pos:String}{after:Array Edge}{guard:Option (Nat×Bool)}{X:List PanicEntry->aq->Prop}
theorem CH {B:World}{w:World}(I:At B h w) (k:aC h b t cs):w.shape? b=some (t,cs.length):=by
 unfold aC at k;simp[World.shape?,I.heap,k]
theorem az.EB {yt:TypeId}{y:Operand}{a:Addr}(hu:P.underlying t=some (.pointer e)) (Y:P.info? e=some j) (U:bp ρ x=some (.pointer (some a))) (J:bp ρ y=some (.pointer (some a))) :
 az P ⟨dst,.binOp .neq t x y yt,ty,pos,after,guard⟩ ρ h (.bool false):=by
 intro _ B w' w I _;have:=Lib.run_neq_ptr_same (P:=P) w a hu Y;simp[execOp,eqGuard,I.eval U,I.eval J,this]
theorem az.Ii {s d:TypeId}{o:Nat}(hs:P.underlying s=some (.pointer t)) (hd:P.underlying d=some .unsafePointer) (J:P.info? t=some j) (Y:j.size≠0)
 (hk:aC h b e cs) (U:o<cs.length) (I:bp ρ x=some (.pointer (some ⟨b,o,none⟩))):az P ⟨dst,.convert s d x,ty,pos,after,guard⟩ ρ h (.pointer (some ⟨b,o,none⟩)):=by
 intro _ B a w Z ha;have:=Lib.run_to_unsafe (P:=P) w ⟨b,o,none⟩ hs hd J Y (CH ha hk) U;simp only[execOp,Z.eval I,Sem.run_bind,this,Result.andThen_ok,Sem.run_pure]
theorem az.ES {s d u:TypeId}{o:Nat}(hs:P.underlying s=some .unsafePointer) (U:P.underlying d=some (.pointer u)) (hu:P.info? u=some j)
 (hk:aC h b e cs) (hl:liesAt P P.depth e (cs.length / P.cellsOf e) o u 1=true) (I:bp ρ x=some (.pointer (some ⟨b,o,none⟩))):az P ⟨dst,.convert s d x,ty,pos,after,guard⟩ ρ h (.pointer (some ⟨b,o,none⟩)):=by
 intro _ B a w J Y;have:=Lib.run_from_unsafe (P:=P) w ⟨b,o,none⟩ hs U hu (CH Y hk) hl;simp only[execOp,J.eval I,Sem.run_bind,this,Result.andThen_ok,Sem.run_pure]
theorem az.Jb {f:FuncId}{fn:Func}{ts:Array TypeId}(Z:P.funcs[f]? =some fn) (I:(fn.name == "runtime.NumGoroutine")=false)
 (hb:fn.body.isNone=true) (Y:Extern.findNext fn=none) (he:Extern.find fn=some Extern.AbiNoEscape.same) (U:bp ρ x=some v) :
 az P ⟨dst,.call ⟨.value (.func f),#[x],ts⟩,ty,pos,after,guard⟩ ρ h v:=by
 intro _ B a w J _;have hc:=run_callFunc_extern (P:=P) Z I hb Y he #[v] w;rw[Lib.run_noEscape] at hc;simp only[execOp,resolve,Act.eval,Deferred.ofValue,invoke];simp[J.eval U,hc]
theorem aV.HL {u:TypeId}{i:TypeInfo}{y:Operand}{s:ByteArray}{base:Nat}(ht:P.underlying t=some (.slice e)) (hu:P.underlying u=some .string) (hi:P.info? e=some i) (hz:i.zero=some (.int .u8 0))
 (I:i.size=1) (ab:i.bytes=1) (hx:bp ρ x=some v) (hy:bp ρ y=some (.string s)) (Z:Fk h base e v l) (hl:l.length+s.size<=140737488355328) (U:base<=h.size) :
 aV P ⟨dst,.call ⟨.builtin .append,#[x,y],#[t,u]⟩,ty,pos,after,guard⟩ ρ h (λv' h'=>Fk h' base e v' (l++s.data.toList)/\Ext (bU v.ownBlock) h h') X:=by
 intro nn B a w hf ha next Q hn _
 have hw:w.ownsRow base e 1 v l.length (l.map vz):=ha.own.2 Z;obtain⟨v',w',hr,J,hg,_⟩:=Lib.run_append_own_string (P:=P) w base t u ty e i ht hu hi hz I ab v l.length (l.map vz) hw s (by simp only[maxLen];omega) hl (by rw[ha.heap];exact U)
 have Y:(execOp a.eval ⟨dst,.call ⟨.builtin .append,#[x,y],#[t,u]⟩,ty,pos,after,guard⟩).run P w= .ok (.value v') w':=by
  simp[execOp,resolve,invoke,builtin,hf.eval hx,hf.eval hy,hr]
 unfold Oper.wp;rw[Y];have aa:=ha.grown hg;refine hn v' w'.heap w' aa ⟨?_,by rw[<-ha.heap];exact nL hg⟩;have h2:=aa.own.1 J
 show aB _ _ _ _ _ _ _
 have e1:(l++s.data.toList).length=l.length+s.size:=by simp
 have e2:(l++s.data.toList).map vz=l.map vz++Lib.strCells s:=by simp[Lib.strCells,vz]
 rw[e1,e2];exact h2
def Seen (h:aq) (base:Nat) (e:TypeId) (q:Option Addr) (l:List UInt8):Prop :=
 l≠[]->∃g cur,q=some ⟨g,0,none⟩/\base<=g/\h[g]? =some (.cells cur e (0,0))/\l.length<=cur.size/\∀j x,l[j]? =some x->cellAt h ⟨g,j,none⟩=some (vz x)
theorem aV.GG {base:Nat}(hp:P.underlying ty=some (.pointer e)) (hx:bp ρ x=some v) (U:Fk h base e v l) :
 aV P ⟨dst,.call ⟨.builtin .unsafeSliceData,#[x],#[t]⟩,ty,pos,after,guard⟩ ρ h (λu h'=>(∃q,u= .pointer q/\Seen h' base e q l)/\aj h h') X:=by
 intro nn B a w hf I next Q hn _
 have go:∀q w',(Builtin.unsafeSliceData_ #[t] ty #[v]).run P w= .ok (.pointer q) w'->At B w'.heap w'->Seen w'.heap base e q l->aj h w'.heap ->
  Oper.wp P ⟨dst,.call ⟨.builtin .unsafeSliceData,#[x],#[t]⟩,ty,pos,after,guard⟩ a w next Q:=by
  intro q w' hr aa hs he
  have J:(execOp a.eval ⟨dst,.call ⟨.builtin .unsafeSliceData,#[x],#[t]⟩,ty,pos,after,guard⟩).run P w= .ok (.value (.pointer q)) w':=by
   simp[execOp,resolve,invoke,builtin,hf.eval hx,hr]
  unfold Oper.wp;rw[J];exact hn _ _ _ aa ⟨⟨q,rfl,hs⟩,he⟩
 rcases U.2 with ⟨rfl,h0⟩|⟨g,cap,cur,rfl,hb,hg,hnc,hc,hs,ht⟩
 · have hl:l=[]:=List.eq_nil_of_length_eq_zero h0;subst hl;exact go none w (Lib.run_unsafeSliceData_nil w _ _ _ _) (I.heap▸I) (λk=>absurd rfl k) (by rw[I.heap];exact Ext.refl _ _)
 · by_cases Y:cap=0
   · subst Y;have hl:l=[]:=List.eq_nil_of_length_eq_zero (by omega);subst hl;have Z:w.shape? g=some (e,cur.size):=by simp[World.shape?,I.heap,hg]
     refine go _ _ (Lib.run_unsafeSliceData_zero w #[t] ty e hp ⟨g,0,none⟩ 0 _ Z) ?_ (λk=>absurd rfl k) ?_
     · exact⟨rfl,I.os,I.tape,I.output⟩
     · show aj h (w.heap.push _)
       rw[I.heap];exact Ext.push _ _ _
   · refine go _ w (Lib.run_unsafeSliceData_row w _ _ _ _ _ Y) (I.heap▸I) ?_ (by rw[I.heap];exact Ext.refl _ _);rw[I.heap];refine λ_=>⟨g,cur,rfl,hb,hg,by omega,λj y hy=>?_⟩
     have hj:j<l.length:=(List.getElem?_eq_some_iff.1 hy).1;have h2:(l.map vz)[j]? =some (vz y):=by simp[hy]
     rw[<-ht,List.getElem?_take,if_pos (by omega)] at h2;simpa [cellAt,hg] using h2
theorem ur {J it e:TypeId}{x y:Operand}{q:Option Addr}{l:List UInt8}{base:Nat}(hp:P.underlying J=some (.pointer e)) (hc:P.cellsOf e=1) (hx:bp ρ x=some (.pointer q)) (hy:bp ρ y=some (.int .i64 l.length))
 (hs:Seen h base e q l) (hl:l.length<=140737488355328) :
 aV P ⟨dst,.call ⟨.builtin .unsafeString,#[x,y],#[J,it]⟩,ty,pos,after,guard⟩ ρ h (λu h'=>u= .string ⟨l.toArray⟩/\Ext (λi=>base<=i) h h') X:=by
 intro nn B a w hf I next Q hn _
 have go:∀w',(Builtin.unsafeString_ #[J,it] ty #[.pointer q,.int .i64 l.length]).run P w= .ok (.string ⟨l.toArray⟩) w'->At B w'.heap w'->Ext (λi=>base<=i) h w'.heap ->
  Oper.wp P ⟨dst,.call ⟨.builtin .unsafeString,#[x,y],#[J,it]⟩,ty,pos,after,guard⟩ a w next Q:=by
  intro w' hr aa he
  have Y:(execOp a.eval ⟨dst,.call ⟨.builtin .unsafeString,#[x,y],#[J,it]⟩,ty,pos,after,guard⟩).run P w= .ok (.value (.string ⟨l.toArray⟩)) w':=by
   simp[execOp,resolve,invoke,builtin,hf.eval hx,hf.eval hy,hr]
  unfold Oper.wp;rw[Y];exact hn _ _ _ aa ⟨rfl,he⟩
 by_cases h0:l=[]
 · subst h0;exact go w (Lib.run_unsafeString_none w J it ty q) (I.heap▸I) (by rw[I.heap];exact Ext.refl _ _)
 · obtain⟨g,cur,rfl,hb,hg,hle,U⟩:=hs h0;have Z:w.shape? g=some (e,cur.size):=by simp[World.shape?,I.heap,hg]
   refine go _ (Lib.run_unsafeString_row w J it ty e hp hc g cur.size Z l h0 hle (by omega) (λj z hz=>?_)) ?_ ?_
   · rw[I.cell];have:=U j z hz;simpa [Addr.add_mid,vz] using this
   · refine⟨rfl,?_,?_,?_⟩<;>(unfold World.freeze;split)
     · exact I.os
     · exact I.os
     · exact I.tape
     · exact I.tape
     · exact I.output
     · exact I.output
   · unfold World.freeze;split
     · rw[I.heap];exact Ext.refl _ _
     · refine⟨by simp[I.heap],λi hi hm=>?_⟩;simp only;rw[Array.getElem?_modify,if_neg (by omega),I.heap]
end
def mg (h:aq) (b:Nat) (T e:TypeId) (l:List UInt8):Prop :=
 ∃p v,aC h b T [p,v]/\(p= .pointer none\/p= .pointer (some ⟨b,0,none⟩))/\Fk h (b+1) e v l
theorem oS (o:Fk h (b+1) e v l):∀g,bU v.ownBlock g->b<g:=by
 intro g I
 rcases o.2 with ⟨rfl,_⟩|⟨J,cap,cur,rfl,hb,_⟩
 · cases I
 · have:g=J:=by simpa [bU,Value.ownBlock] using I
   omega
theorem yV {T:TypeId}(k:aC h b T [.pointer none,.slice none 0 0]):mg h b T e []:=⟨_,_,k,.inl rfl,bN.nil _ _ _ _⟩
end
end Go.Lw
namespace Go.Lw
section
variable {P:Program}{ρ:Env}{h:aq}{dst:Option Nat}{ty:TypeId}{pos:String}{after:Array Edge}{guard:Option (Nat×Bool)}
def xQ:Value->Bool
 |.nilIface=>true
 |_=>false
theorem az.C0 {t yt:TypeId}{ms:Array (String×TypeId)}{x:Operand}{v:Value}(hu:P.underlying t=some (.interface ms)) (U:bp ρ x=some v) (hv:v= .nilIface\/∃J I,v= .iface J I) :
 az P ⟨dst,.binOp .neq t x (.const .nilIface) yt,ty,pos,after,guard⟩ ρ h (.bool (!xQ v)):=by
 intro _ B a w Y _;have h1:∀d:Nat,(Op.equalIn (d+1) t .nilIface .nilIface).run P w= .ok true w:=λd=>by simp[Op.equalIn,run_underlying hu]
 have h2:∀(d:Nat) J I,(Op.equalIn (d+1) t (.iface J I) .nilIface).run P w= .ok false w:=λd J I=>by simp[Op.equalIn,run_underlying hu]
 have Z:a.eval (.const .nilIface)= .nilIface:=rfl
 rcases hv with rfl|⟨J,I,rfl⟩
 · simp[execOp,eqGuard,binOp,Y.eval U,Z,Op.equal,Op.maxDepth,h1 9999,xQ]
 · simp[execOp,eqGuard,binOp,Y.eval U,Z,Op.equal,Op.maxDepth,h2 9999,xQ]
end
def Cl (P:Program) (h:aq) (name:String):Option (Array Value) :=
 (P.globalNamed name).bind λg=>match h[g]? with|some (.cells cs _ _)=>some cs|_=>none
theorem Ck (P:Program) (w:World) (name:String):w.var? P name=Cl P w.heap name:=rfl
theorem Eh {P:Program}{h h':aq}{name:String}{cs:Array Value}(e:aj h h') (k:Cl P h name=some cs):Cl P h' name=some cs:=by
 unfold Cl at k ⊢;cases J:P.globalNamed name with
 |none=>simp[J] at k
 |some g =>
  simp only[J,Option.bind_some] at k ⊢
  have I:g<h.size:=by
   rcases Nat.lt_or_ge g h.size with h1|h1
   · exact h1
   · rw[Array.getElem?_eq_none h1] at k;cases k
  rw[e.block g I (λk=>k)];exact k
end Go.Lw
namespace Go.Lw
section
variable {P:Program}{ρ:Env}{h:aq}{dst:Option Nat}{ty:TypeId}{pos:String}{after:Array Edge}{guard:Option (Nat×Bool)}
end
end Go.Lw
namespace Go.Lw
section
variable {o:Oper}{v:Value}{d:Nat}
def Pm (ρ:Env):Op->Option Value
 |.move x=>bp ρ x
 |.assign x=>bp ρ x
 |.extract x i=>match bp ρ x with|some (.tuple vs)=>vs[i]? |_=>none
 |.nilCheck x=>match bp ρ x with|some (.pointer (some a))=>some (.pointer (some a))|_=>none
 |.pick c x y=>match bp ρ c with|some (.bool true)=>bp ρ x|some (.bool false)=>bp ρ y|_=>none
 |.unOp .not _ x=>match bp ρ x with|some (.bool b)=>some (.bool (!b))|_=>none
 |.binOp op _ x y _=>match bp ρ x,bp ρ y with
  |some (.int k i),some (.int k' j)=>if k=k' then (match op with
   |.eql=>some (.bool (decide (i=j)))
   |.neq=>some (.bool (decide (¬i=j)))
   |.lss=>some (.bool (decide (i<j)))
   |.leq=>some (.bool (decide (i<=j)))
   |.gtr=>some (.bool (decide (j<i)))
   |.geq=>some (.bool (decide (j<=i)))
   |_=>none) else none
  |_,_=>none
 |_=>none
theorem EV {P:Program}{ρ:Env}{h:aq}(hv:Pm ρ o.op=some v):az P o ρ h v:=by
 obtain⟨dst,op,ty,pos,after,guard⟩:=o;simp only at hv;unfold Pm at hv;split at hv
 · exact fu hv
 · exact az.assign hv
 · split at hv
   · rename_i hx;exact az.extract hx hv
   · cases hv
 · split at hv
   · rename_i hx;cases hv;exact tn hx
   · cases hv
 · split at hv
   · rename_i hc;exact az.N0 hc hv
   · rename_i hc;exact az.N1 hc hv
   · cases hv
 · split at hv
   · rename_i hx;cases hv;exact az.MH hx
   · cases hv
 · split at hv
   · rename_i hx hy;split at hv
     · rename_i hk;subst hk;split at hv
       · cases hv;exact az.MT hx hy
       · cases hv;exact az.MJ hx hy
       · cases hv;exact Lp hx hy
       · cases hv;exact Lq hx hy
       · cases hv;exact Lr hx hy
       · cases hv;exact Ls hx hy
       · cases hv
     · cases hv
   · cases hv
 · cases hv
def keep:List Nat->Env->Option Env
 | [],_=>some []
 |i::r,ρ=>match ρ.at i with
  |some v=>match keep r ρ with
   |some e=>some ((i,v)::e)
   |none=>none
  |none=>none
theorem Dt:∀(ns:List Nat){ρ ρ':Env},keep ns ρ=some ρ'->Sub ρ' ρ
 | [],ρ,ρ',h=>by cases h;trivial
 |i::r,ρ,ρ',h=>by
  rw[keep] at h;split at h
  · rename_i v hv;split at h
    · rename_i e he;cases h;exact⟨hv,Dt r he⟩
    · cases h
  · cases h
section
variable {P:Program}{n:Nat}{ops:Array Oper}{i:Nat}{ρ ρ':Env}{h:aq}{N:Env->aq->Prop}{X:List PanicEntry->aq->Prop}
theorem xp (e:(nth ops.toList i,aW ops ρ o,o.dst,Nat.blt d n)=(some o,some true,some d,true)) (k:az P o ρ h v) (next:RW P n ops (i+1) ((d,v)::ρ) h N X):RW P n ops i ρ h N X:=by
 simp only[Prod.mk.injEq] at e;exact RW.cC e.1 e.2.1 e.2.2.1 e.2.2.2 k next
theorem xo {Φ:Value->aq->Prop}(e:(nth ops.toList i,aW ops ρ o,o.dst,Nat.blt d n)=(some o,some true,some d,true)) (k:aV P o ρ h Φ X) (next:∀v h',Φ v h'->RW P n ops (i+1) ((d,v)::ρ) h' N X):RW P n ops i ρ h N X:=by
 simp only[Prod.mk.injEq] at e;exact RW.HZ e.1 e.2.1 e.2.2.1 e.2.2.2 k next
theorem xk (e:(nth ops.toList i,aW ops ρ o,o.dst,Nat.blt d n)=(some o,some false,some d,true)) (next:RW P n ops (i+1) ((d,undef)::ρ) h N X):RW P n ops i ρ h N X:=by
 simp only[Prod.mk.injEq] at e;exact RW.wq e.1 e.2.1 e.2.2.1 e.2.2.2 next
end
section
variable {P:Program}{n:Nat}{ops:Array Oper}{i:Nat}{f:FuncId}{fn:Func}{k:List It}{ρ ρ':Env}{h:aq}{R:Ending->aq->Prop}{X:List PanicEntry->aq->Prop}{p:List Nat}
theorem xr (I:P.funcs[f]? =some fn) (e:(kind (Lw.sub (ax fn) p),kind (Lw.sub (ax fn) (0::p)))=(1,5))
 (next:RW P fn.ntmps (opsOf (Lw.sub (ax fn) (0::p))) 0 ρ h (λρ' h'=>G P f fn (.code (1::p)::k) ρ' h' R) (λJ h'=>R (.panicked J) h')):G P f fn (.code p::k) ρ h R:=by
 simp only[Prod.mk.injEq] at e;exact iC e.1 (G.mE I e.2 next)
end
def A4 (n:Nat) (ops:Array Oper):Nat->Nat->Env->Option Env
 | 0,_,ρ=>some ρ
 |k+1,i,ρ=>match nth ops.toList i with
  |some o=>match o.dst with
   |some d=>match Nat.blt d n with
    |true=>match aW ops ρ o with
     |some true=>match Pm ρ o.op with
      |some v=>A4 n ops k (i+1) ((d,v)::ρ)
      |none=>none
     |some false=>A4 n ops k (i+1) ((d,undef)::ρ)
     |none=>none
    |false=>none
   |none=>none
  |none=>none
section
variable {P:Program}{n:Nat}{ops:Array Oper}{ρ':Env}{h:aq}{N:Env->aq->Prop}{X:List PanicEntry->aq->Prop}
theorem B6:∀(k:Nat){i:Nat}{ρ:Env}(_:A4 n ops k i ρ=some ρ') (_:RW P n ops (i+k) ρ' h N X),RW P n ops i ρ h N X
 | 0,i,ρ,e,next=>by cases e;exact next
 |k+1,i,ρ,e,next=>by
  rw[A4] at e;split at e
  · rename_i o ho;split at e
    · rename_i d hd;split at e
      · rename_i hb;split at e
        · rename_i hw;split at e
          · rename_i v hv;exact RW.cC ho hw hd hb (EV hv) (B6 k e (by rw[Nat.add_assoc,Nat.add_comm 1 k];exact next))
          · cases e
        · rename_i hw;exact RW.wq ho hw hd hb (B6 k e (by rw[Nat.add_assoc,Nat.add_comm 1 k];exact next))
        · cases e
      · cases e
    · cases e
  · cases e
theorem KA (k:Nat){i:Nat}{ρ:Env}(I:A4 n ops k i ρ=some ρ') (e:(nth ops.toList (i+k),aW ops ρ' o,o.dst,Nat.blt d n)=(some o,some true,some d,true)) (q:az P o ρ' h v)
 (next:RW P n ops (i+k+1) ((d,v)::ρ') h N X):RW P n ops i ρ h N X:=B6 k I (xp e q next)
end
def BB (ops:Array Oper) (i:Nat) (ns:List Nat):Option Env->Option Env
 |some ρ=>match Nat.ble ops.size i with
  |true=>keep ns ρ
  |false=>none
 |none=>none
section
variable {P:Program}{n:Nat}{ops:Array Oper}{i:Nat}{f:FuncId}{fn:Func}{k:List It}{ρ ρ':Env}{h:aq}{R:Ending->aq->Prop}{X:List PanicEntry->aq->Prop}{p:List Nat}
theorem D5 (m:Nat) (ns:List Nat) (e:BB ops (i+m) ns (A4 n ops m i ρ)=some ρ') (next:G P f fn k ρ' h R):RW P n ops i ρ h (λρ' h'=>G P f fn k ρ' h' R) X:=by
 unfold BB at e;split at e
 · rename_i r hr;split at e
   · rename_i hb;exact B6 m hr (jf hb (G.sub (Dt ns e) next))
   · cases e
 · cases e
theorem Mm (I:P.funcs[f]? =some fn) (m:Nat) (e:(kind (Lw.sub (ax fn) p),kind (Lw.sub (ax fn) (0::p)),A4 fn.ntmps (opsOf (Lw.sub (ax fn) (0::p))) m 0 ρ)=(1,5,some ρ'))
 (next:RW P fn.ntmps (opsOf (Lw.sub (ax fn) (0::p))) (0+m) ρ' h (λρ' h'=>G P f fn (.code (1::p)::k) ρ' h' R) (λJ h'=>R (.panicked J) h')):G P f fn (.code p::k) ρ h R:=by
 simp only[Prod.mk.injEq] at e;exact iC e.1 (G.mE I e.2.1 (B6 m e.2.2 next))
theorem Kz (I:P.funcs[f]? =some fn) (m:Nat) (ns:List Nat) (e:(kind (Lw.sub (ax fn) p),kind (Lw.sub (ax fn) (0::p)),BB (opsOf (Lw.sub (ax fn) (0::p))) (0+m) ns (A4 fn.ntmps (opsOf (Lw.sub (ax fn) (0::p))) m 0 ρ))=(1,5,some ρ'))
 (next:G P f fn (.code (1::p)::k) ρ' h R):G P f fn (.code p::k) ρ h R:=by
 simp only[Prod.mk.injEq] at e;exact iC e.1 (G.mE I e.2.1 (D5 m ns e.2.2 next))
end
def la (n m:Nat):Array Bool:=((List.range n).map λi=>m.testBit i).toArray
def okO (ops:Array Oper) (listed:Array Bool) (i:Nat) (l':Array Bool):Bool:=decide (Region.ready .any ops listed=[i]) && decide (listed.setIfInBounds i true=l')
section
variable {P:Program}{n:Nat}{ops:Array Oper}{M:Nat->Prop}{keeps:Nat->Bool}{fuel:Nat}{listed:Array Bool}{ρ:Env}{h:aq}{N:Env->aq->Prop}{X:List PanicEntry->aq->Prop}
end
end
end Go.Lw
