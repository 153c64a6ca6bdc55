/- What the proof of the statement leans on (part 13). -/
import Derived.WideLaws
import Derived.WideMake
import Derived.Test.YtckomlgchbkekaaGreatDoorQl

namespace Go.Lw
open Go.RowKit
section
variable {α β:Type}{t kt et:TypeId}{m:Nat}
section
variable {P:Program}{ρ:Env}{h:ai}{dst:Option Nat}{ty:TypeId}{pos:String}{after:Array Edge}{guard:Option (Nat×Bool)}{X:List PanicEntry->ai->Prop}
theorem lY {α β:Type}{ek:α->Value}{ev:β->Value}{t:TypeId} :
 aH P ⟨dst,.makeMap t none,ty,pos,after,guard⟩ ρ h (fun u g=>u= .map (some h.size)/\eJ ek ev g h.size []/\ah h g/\g.size=h.size+1) X:=by
 refine(aH.sd (v:=.map (some h.size)) (h':=h.push (.map #[] 0)) fun n B a w hf ha=>⟨w.alloc (.map #[] 0),?_,?_⟩).mono (fun u g k=>?_) (fun _ _ k=>k)
 · simp[execOp,run_makeMap_plain,ha.heap]
 · have:=ha.heap;refine⟨by simp[World.alloc,ha.heap],ha.os,ha.tape,ha.output⟩
 · obtain⟨rfl,rfl⟩:=k;exact⟨rfl,⟨#[],0,by simp,by simp⟩,Ext.push _ _ _,by simp⟩
theorem rO {kd:TypeDesc}[DecidableEq α]{ek:α->Value}{ev:β->Value}(K:iK kd ek){k:α}{v:β}{l:List (α×β)}{w:World}(ht:P.underlying t=some (.map kt et)) (hk:P.underlying kt=some kd)
 (hm:eJ ek ev w.heap m l) (hn:jG k l=none):∃o,(Instr.mapUpdate t (.map (some m)) (ek k) (ev v)).run P w= .ok () { w with heap:=w.heap.setIfInBounds m o }/\eJ ek ev (w.heap.setIfInBounds m o) m (l++[(k,v)]):=by
 obtain⟨es,c,h1,h2⟩:=hm;obtain⟨j,hj⟩:=lR (ev:=ev) K k es.toList l 0 h2;rw[hn] at hj
 have hfind:(Instr.findKey kt (ek k) es.toList).run P w= .ok none w:=by
  unfold Instr.findKey;rw[Sem.run_bind,run_underlying hk w];simp[hj]
 refine⟨.map (es.push { key:=ek k,val:=ev v,born:=c }) (c+1),?_,⟨_,_,by
  have hlt:=(Array.getElem?_eq_some_iff.1 h1).1;rw[Array.getElem?_setIfInBounds,if_pos rfl,if_pos hlt],by simp[h2]⟩⟩
 unfold Instr.mapUpdate;simp only[Sem.run_bind,run_underlying ht w,Result.andThen_ok,MapKept.run_getObj_map h1,K.plain P w kt _ 9999 k hk,hfind,MapKept.run_setObj_map _ h1]
theorem vK (h:ai) (m:Nat) (o:Obj):Ext (fun b=>b=m) h (h.setIfInBounds m o)/\(h.setIfInBounds m o).size=h.size :=
 ⟨⟨by simp,fun b _ hb=>by rw[Array.getElem?_setIfInBounds,if_neg (fun e=>hb e.symm)]⟩,by simp⟩
theorem kR {kd:TypeDesc}[DecidableEq α]{ek:α->Value}{ev:β->Value}(K:iK kd ek){k:α}{v:β}{l:List (α×β)}{x y z:Operand}{u u2:Value}{o:Oper}(ho:o.op= .mapUpdate t x y z\/o.op= .insert t x y z) (ht:P.underlying t=some (.map kt et)) (hk:P.underlying kt=some kd)
 (hx:aT ρ x=some (.map (some m))) (hy:aT ρ y=some u) (hu:u=ek k) (hz:aT ρ z=some u2) (hu2:u2=ev v) (hm:eJ ek ev h m l) (hn:jG k l=none) :
 aH P o ρ h (fun r g=>r=undef/\eJ ek ev g m (l++[(k,v)])/\Ext (fun b=>b=m) h g/\g.size=h.size) X:=by
 subst hu hu2;intro n B a w hf ha next Q hnx _
 obtain⟨ob,hr,hm'⟩:=rO (P:=P) (w:=w) (v:=v) K ht hk (by rw[ha.heap];exact hm) hn;unfold Oper.wp
 have hex:(execOp a.eval o).run P w= .ok .skip { w with heap:=w.heap.setIfInBounds m ob }:=by
  rcases ho with ho|ho<;>simp[execOp,ho,hf.eval hx,hf.eval hy,hf.eval hz,hr]
 rw[hex];have hs:=vK w.heap m ob;rw[ha.heap] at hs;refine hnx undef _ _ (ha.base ⟨rfl,rfl,rfl,rfl⟩) ⟨rfl,hm',?_,?_⟩
 · rw[ha.heap];exact hs.1
 · rw[ha.heap];exact hs.2
theorem aH.mapUpdate {kd:TypeDesc}{α β:Type}[DecidableEq α]{ek:α->Value}{ev:β->Value}(K:iK kd ek){t kt et:TypeId}{k:α}{v:β}{m:Nat}{l:List (α×β)}{x y z:Operand}{u u2:Value}(ht:P.underlying t=some (.map kt et)) (hk:P.underlying kt=some kd)
 (hx:aT ρ x=some (.map (some m))) (hy:aT ρ y=some u) (hu:u=ek k) (hz:aT ρ z=some u2) (hu2:u2=ev v) (hm:eJ ek ev h m l) (hn:jG k l=none) :
 aH P ⟨dst,.mapUpdate t x y z,ty,pos,after,guard⟩ ρ h (fun r g=>r=undef/\eJ ek ev g m (l++[(k,v)])/\Ext (fun b=>b=m) h g/\g.size=h.size) X:=kR K (.inl rfl) ht hk hx hy hu hz hu2 hm hn
theorem um {kd:TypeDesc}{α β:Type}[DecidableEq α]{ek:α->Value}{ev:β->Value}(K:iK kd ek){t kt et:TypeId}{k:α}{v:β}{m:Nat}{l:List (α×β)}{x y z:Operand}{u u2:Value}(ht:P.underlying t=some (.map kt et)) (hk:P.underlying kt=some kd)
 (hx:aT ρ x=some (.map (some m))) (hy:aT ρ y=some u) (hu:u=ek k) (hz:aT ρ z=some u2) (hu2:u2=ev v) (hm:eJ ek ev h m l) (hn:jG k l=none) :
 aH P ⟨dst,.insert t x y z,ty,pos,after,guard⟩ ρ h (fun r g=>r=undef/\eJ ek ev g m (l++[(k,v)])/\Ext (fun b=>b=m) h g/\g.size=h.size) X:=kR K (.inr rfl) ht hk hx hy hu hz hu2 hm hn
theorem an.CB {ek:α->Value}{ev:β->Value}{x:Operand}{l:List (α×β)}(ht:P.underlying t=some (.map kt et)) (hx:aT ρ x=some (.map (some m))) (hm:eJ ek ev h m l) :
 an P ⟨dst,.call ⟨.builtin .len,#[x],#[t]⟩,ty,pos,after,guard⟩ ρ h (.int .i64 (l.length:Nat)):=by
 intro n B a w hf ha;obtain⟨es,c,h1,h2⟩:=hm
 have hl:es.size=l.length:=by
  have:=congrArg List.length h2;simpa using this
 have ht':P.underlying t=some (.map (P.mapKeyOf t) (P.mapElemOf t)):=by simp[Program.mapKeyOf,Program.mapElemOf,ht]
 have:=run_len_map (P:=P) (w:=w) t ty m es c ht' (by rw[ha.heap];exact h1);rw[hl] at this;simp[execOp,resolve,invoke,builtin,hf.eval hx,this,goInt]
end
end
end Go.Lw
namespace Go.Lw
section
variable {α:Type}{n i base size b:Nat}{h:ai}{t:TypeId}{v:Value}{xs:List Value}
theorem bF.at {α:Type}{enc:α->Value}{h:ai}{base:Nat}{t:TypeId}{v:Value}{xs:List α}(k:bF enc h base t v xs){i:Nat}{x:α}(hx:xs[i]? =some x) :
 ∃g c,v= .slice (some ⟨g,0,none⟩) xs.length c/\base<=g/\g<h.size/\cellAt h ⟨g,0+i*1,none⟩=some (enc x)/\frozenAt h ⟨g,0+i*1,none⟩=false /\
  ∀y,bF enc (dD h ⟨g,0+i*1,none⟩ (enc y)) base t v (xs.set i y):=by
 obtain⟨oa,c,rfl,hw⟩:=(show ay h base t 1 v xs.length (xs.map enc) from k).open;obtain⟨g,ha,hb,hlt,hc,hf⟩:=hw.at (i:=i) (x:=enc x) (by rw[List.getElem?_map,hx];rfl);refine⟨g,c,by rw[ha],hb,hlt,hc,hf,fun y=>?_⟩;have hi:i<xs.length:=(List.getElem?_eq_some_iff.1 hx).1;have:=(hw.set ha hi (enc y)).own;unfold bF;rw[List.length_set,List.map_set];exact this
theorem Hf {l:List α}{z:α}(hl:l.length=n) (hi:i<n):(l.take i++List.replicate (n-i) z).set i l[i]=l.take (i+1)++List.replicate (n-(i+1)) z:=by
 rw[List.set_append_right _ _ (by simp;omega)];have e1:i-(l.take i).length=0:=by simp;omega
 have e2:n-i=(n-(i+1))+1:=by omega
 rw[e1,e2,List.replicate_succ,List.set_cons_zero,List.take_succ_eq_append_getElem (by omega),List.append_assoc];rfl
theorem Hh {l:List α}{z:α}(hl:l.length=n) (hi:i<n):(l.take i++List.replicate (n-i) z)[i]? =some z:=by
 have h1:(l.take i).length=i:=by rw[List.length_take];omega
 rw[List.getElem?_append_right (by omega),h1,Nat.sub_self,List.getElem?_replicate,if_pos (by omega)]
theorem Hg {l:List α}{z:α}(hl:l.length=n) (hi:i<=n):(l.take i++List.replicate (n-i) z).length=n:=by
 rw[List.length_append,List.length_take,List.length_replicate];omega
theorem aR.row {α:Type}{enc:α->Value} {h1:∀x,(enc x).oneCell'=true}{h:ai}{O:Nat->Prop}{oa:Option Addr}{n c:Nat}{xs:List α}(k:aR (.flat enc h1) h O (.slice oa n c) xs):xs.length=n/\(n=0\/∃b o,oa=some ⟨b,o,none⟩/\rowAt h b o (xs.map enc))/\n<=maxLen:=by
 obtain⟨oa',n',c',hv,hl,hc,hm,hg⟩:=k;cases hv;have hs:Sl (.flat enc h1) h O oa n c xs:=⟨hl,hc,hm,hg⟩
 exact⟨hl,Sl.row hs,by omega⟩
theorem eP.mM {sz:Nat}{enc:α->List Value}(hl:∀x,(enc x).length=sz) (h:ai) (x:α) (t:TypeId) (base:Nat) (hb:base<=h.size){cs:List Value}(hc:cs=enc x):eP sz enc (h.push (.cells cs.toArray t)) base t (.slice (some ⟨h.size,0,none⟩) 1 1) [x]:=by
 subst hc;unfold eP;exact⟨by simp[hl],.inr ⟨h.size,1,(enc x).toArray,rfl,hb,by simp,Nat.le_refl _,by simp[maxLen],by simp[hl],by simp[<-hl x]⟩⟩
theorem Dn {base':Nat}(k:ay h base t size v n xs) (hb:∀b,v.ownBlock=some b->base'<=b):ay h base' t size v n xs:=by
 rcases k with ⟨k1,k2|⟨g,cap,cur,rfl,hg,k3⟩⟩
 · exact⟨k1,.inl k2⟩
 · exact⟨k1,.inr ⟨g,cap,cur,rfl,hb g rfl,k3⟩⟩
theorem ay.ty (k:ay h base t size v n xs) (hb:v.ownBlock=some b):∃cur:Array Value,∃fr,h[b]? =some (.cells cur t fr):=by
 rcases k.2 with ⟨rfl,_⟩|⟨g,cap,cur,rfl,_,hg,_⟩
 · cases hb
 · cases hb;exact⟨_,_,hg⟩
def cq (h:ai) (b:Nat) (t:TypeId):Prop:=∃cur:Array Value,∃fr,h[b]? =some (.cells cur t fr)
theorem cq.ne {b':Nat}{t':TypeId}(k:cq h b t) (k':cq h b' t') (ht:t≠t'):b≠b':=by
 rintro rfl;obtain⟨c,f,h1⟩:=k;obtain⟨c',f',h2⟩:=k';rw[h1] at h2;cases h2;exact ht rfl
theorem az.ty {cs:List Value}(k:az h b t cs):cq h b t:=⟨_,_,k⟩
theorem eJ.ne {β:Type}{ek:α->Value}{ev:β->Value}{m:Nat}{l:List (α×β)}(k:eJ ek ev h m l) (k':cq h b t):m≠b:=by
 rintro rfl;obtain⟨es,c,h1,_⟩:=k;obtain⟨c',f',h2⟩:=k';rw[h1] at h2;cases h2
theorem cq.ext {M:Nat->Prop}{h':ai}(k:cq h b t) (e:Ext M h h') (hm:¬M b):cq h' b t:=by
 obtain⟨c,f,h1⟩:=k;exact⟨c,f,(e.block b (Array.getElem?_eq_some_iff.1 h1).1 hm).trans h1⟩
theorem cq.lt (k:cq h b t):b<h.size:=by
 obtain⟨c,f,h1⟩:=k;exact(Array.getElem?_eq_some_iff.1 h1).1
theorem ay.JV {enc:α->Value} {h1:∀x,(enc x).oneCell'=true}{O:Nat->Prop}{xs:List α}(k:ay h base t 1 v n (xs.map enc)) (ho:∀b,v.ownBlock=some b->¬O b):aR (.flat enc h1) h O v xs:=by
 have k0:aR (.flat enc h1) h (fun _=>False) v xs:=ay.shut k (fun _ _ k=>k)
 rcases k.2 with ⟨rfl,hn0⟩|⟨g,cap,cur,rfl,hb,hg,hnc,hc,hs,ht⟩
 · have hl:xs.length=0:=by have:=k.1;simp at this;omega
   have:xs=[]:=List.eq_nil_of_length_eq_zero hl;subst this;exact⟨none,0,0,rfl,rfl,Nat.le_refl _,by simp[maxLen],fun i x hx=>by simp at hx⟩
 · obtain⟨oa,n',c',hv,hl,hnc',hc',hget⟩:=k0;cases hv;refine⟨_,_,_,rfl,hl,hnc',hc',fun i x hx=>?_⟩;obtain⟨b,o,cs,h2,_,h3,h4⟩:=hget i x hx;cases h2;exact⟨_,_,cs,rfl,ho _ rfl,h3,h4⟩
section
variable {P:Program}{ρ:Env}{h:ai}{dst:Option Nat}{ty:TypeId}{pos:String}{after:Array Edge}{guard:Option (Nat×Bool)}{X:List PanicEntry->ai->Prop}
theorem an.sV {e:TypeId}{x y:Operand}{cs:Array Value}{k:IntKind}{j:Int}(hu:P.underlying t=some (.array n e)) (hs:bE P e=some 1) (hr:aJ P e=some false) (hx:aT ρ x=some (.agg cs)) (hy:aT ρ y=some (.int k j)) (i:Nat) (hj:j=i) (hi:i<n) (hv:cs[i]? =some v) :
 an P ⟨dst,.index t x y,ty,pos,after,guard⟩ ρ h v:=by
 intro _ B a w hf _;subst hj;simp[execOp,Instr.index,run_underlying hu,asIntOf,hf.eval hx,hf.eval hy,run_sizeOf hs,hi,part,fY hr,hv]
theorem aH.wC {e:TypeId}{bytes:Nat}{x y:Operand}{news:List Value}{m c:Nat}{h0:ai}(ht:P.underlying t=some (.slice e)) (he:cD P e size bytes)
 (hx:aT ρ x=some v) (hy:aT ρ y=some (.slice (some ⟨h0.size,0,none⟩) m c)) (hown:ay h0 base e size v n xs) (hh:h=h0.push (.cells news.toArray e)) (hl:news.length=m*size)
 (h1:∀u∈news,u.oneCell'=true) (hn:n+m<=maxLen) (hmul:(n+m)*bytes<=140737488355328) (hbase:base<=h0.size) :
 aH P ⟨dst,.call ⟨.builtin .append,#[x,y],#[t,t]⟩,ty,pos,after,guard⟩ ρ h (fun v' h'=>ay h' base e size v' (n+m) (xs++news)/\Ext (b8 v.ownBlock) h0 h'/\Ext (b8 v.ownBlock) h h'/\(∀b,v'.ownBlock=some b->v.ownBlock=some b\/h0.size<=b)) X:=by
 subst hh;have hp:=Ext.push (fun _=>False) h0 (.cells news.toArray e);have hs:(h0.push (.cells news.toArray e)).size=h0.size+1:=by simp
 refine(bR ht he hx hy (hown.ext hp (fun _ _ k=>k)) hl (.inr ⟨_,_,rfl,fJ _ _ _⟩) h1 hn hmul (by omega)).mono (fun v' h' ⟨k1,k2,_,k4⟩=>⟨k1,?_,k2,fun b hb=>?_⟩) (fun _ _ k=>k)
 · exact(ah.of hp).trans k2
 · rcases k4 b hb with k|k
   · exact .inl k
   · exact .inr (by omega)
end
end
end Go.Lw
