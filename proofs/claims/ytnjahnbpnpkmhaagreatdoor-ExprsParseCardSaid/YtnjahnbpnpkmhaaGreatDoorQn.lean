/- Part 14. -/
import Derived.WideLaws
import Derived.WideMake
import Derived.Test.YtnjahnbpnpkmhaaGreatDoorQm

namespace Go.Lw
open Go.RowKit
section
variable {α β:Type}{t kt et:TypeId}{m:Nat}
section
variable {P:Program}{ρ:Env}{h:aq}{dst:Option Nat}{ty:TypeId}{pos:String}{after:Array Edge}{guard:Option (Nat×Bool)}{X:List PanicEntry->aq->Prop}
theorem pS {α β:Type}{ek:α->Value}{ev:β->Value}{t:TypeId} :
 aV P ⟨dst,.makeMap t none,ty,pos,after,guard⟩ ρ h (λu g=>u= .map (some h.size)/\fU ek ev g h.size []/\aj h g/\g.size=h.size+1) X:=by
 refine(aV.FT (v:=.map (some h.size)) (h':=h.push (.map #[] 0)) λn B a w hf I=>⟨w.alloc (.map #[] 0),?_,?_⟩).mono (λu g k=>?_) (λ_ _ k=>k)
 · simp[execOp,run_makeMap_plain,I.heap]
 · have:=I.heap;refine⟨by simp[World.alloc,I.heap],I.os,I.tape,I.output⟩
 · obtain⟨rfl,rfl⟩:=k;exact⟨rfl,⟨#[],0,by simp,by simp⟩,Ext.push _ _ _,by simp⟩
theorem wG {kd:TypeDesc}[DecidableEq α]{ek:α->Value}{ev:β->Value}(K:kR kd ek){k:α}{v:β}{l:List (α×β)}{w:World}(Z:P.underlying t=some (.map kt et)) (hk:P.underlying kt=some kd)
 (hm:fU ek ev w.heap m l) (hn:mY k l=none):∃o,(Instr.mapUpdate t (.map (some m)) (ek k) (ev v)).run P w= .ok () { w with heap:=w.heap.setIfInBounds m o }/\fU ek ev (w.heap.setIfInBounds m o) m (l++[(k,v)]):=by
 obtain⟨es,c,h1,Y⟩:=hm;obtain⟨j,U⟩:=pE (ev:=ev) K k es.toList l 0 Y;rw[hn] at U
 have I:(Instr.findKey kt (ek k) es.toList).run P w= .ok none w:=by
  unfold Instr.findKey;rw[Sem.run_bind,run_underlying hk w];simp[U]
 refine⟨.map (es.push { key:=ek k,val:=ev v,born:=c }) (c+1),?_,⟨_,_,by
  have J:=(Array.getElem?_eq_some_iff.1 h1).1;rw[Array.getElem?_setIfInBounds,if_pos rfl,if_pos J],by simp[Y]⟩⟩
 unfold Instr.mapUpdate;simp only[Sem.run_bind,run_underlying Z w,Result.andThen_ok,MapKept.run_getObj_map h1,K.plain P w kt _ 9999 k hk,I,MapKept.run_setObj_map _ h1]
theorem GJ (h:aq) (m:Nat) (o:Obj):Ext (λb=>b=m) h (h.setIfInBounds m o)/\(h.setIfInBounds m o).size=h.size :=
 ⟨⟨by simp,λb _ I=>by rw[Array.getElem?_setIfInBounds,if_neg (λe=>I e.symm)]⟩,by simp⟩
theorem ot {kd:TypeDesc}[DecidableEq α]{ek:α->Value}{ev:β->Value}(K:kR kd ek){k:α}{v:β}{l:List (α×β)}{x y z:Operand}{u u2:Value}{o:Oper}(J:o.op= .mapUpdate t x y z\/o.op= .insert t x y z) (ht:P.underlying t=some (.map kt et)) (hk:P.underlying kt=some kd)
 (hx:bp ρ x=some (.map (some m))) (hy:bp ρ y=some u) (hu:u=ek k) (hz:bp ρ z=some u2) (U:u2=ev v) (hm:fU ek ev h m l) (hn:mY k l=none) :
 aV P o ρ h (λr g=>r=undef/\fU ek ev g m (l++[(k,v)])/\Ext (λb=>b=m) h g/\g.size=h.size) X:=by
 subst hu U;intro n B a w hf I next Q Y _
 obtain⟨ob,hr,Z⟩:=wG (P:=P) (w:=w) (v:=v) K ht hk (by rw[I.heap];exact hm) hn;unfold Oper.wp
 have hex:(execOp a.eval o).run P w= .ok .skip { w with heap:=w.heap.setIfInBounds m ob }:=by
  rcases J with J|J<;>simp[execOp,J,hf.eval hx,hf.eval hy,hf.eval hz,hr]
 rw[hex];have hs:=GJ w.heap m ob;rw[I.heap] at hs;refine Y undef _ _ (I.base ⟨rfl,rfl,rfl,rfl⟩) ⟨rfl,Z,?_,?_⟩
 · rw[I.heap];exact hs.1
 · rw[I.heap];exact hs.2
theorem lZ {kd:TypeDesc}{α β:Type}[DecidableEq α]{ek:α->Value}{ev:β->Value}(K:kR kd ek){t kt et:TypeId}{k:α}{v:β}{m:Nat}{l:List (α×β)}{x y z:Operand}{u J:Value}(ht:P.underlying t=some (.map kt et)) (hk:P.underlying kt=some kd)
 (Z:bp ρ x=some (.map (some m))) (Y:bp ρ y=some u) (hu:u=ek k) (U:bp ρ z=some J) (I:J=ev v) (hm:fU ek ev h m l) (hn:mY k l=none) :
 aV P ⟨dst,.mapUpdate t x y z,ty,pos,after,guard⟩ ρ h (λr g=>r=undef/\fU ek ev g m (l++[(k,v)])/\Ext (λb=>b=m) h g/\g.size=h.size) X:=ot K (.inl rfl) ht hk Z Y hu U I hm hn
theorem yQ {kd:TypeDesc}{α β:Type}[DecidableEq α]{ek:α->Value}{ev:β->Value}(K:kR kd ek){t kt et:TypeId}{k:α}{v:β}{m:Nat}{l:List (α×β)}{x y z:Operand}{u J:Value}(ht:P.underlying t=some (.map kt et)) (hk:P.underlying kt=some kd)
 (Z:bp ρ x=some (.map (some m))) (Y:bp ρ y=some u) (hu:u=ek k) (U:bp ρ z=some J) (I:J=ev v) (hm:fU ek ev h m l) (hn:mY k l=none) :
 aV P ⟨dst,.insert t x y z,ty,pos,after,guard⟩ ρ h (λr g=>r=undef/\fU ek ev g m (l++[(k,v)])/\Ext (λb=>b=m) h g/\g.size=h.size) X:=ot K (.inr rfl) ht hk Z Y hu U I hm hn
theorem az.EJ {ek:α->Value}{ev:β->Value}{x:Operand}{l:List (α×β)}(U:P.underlying t=some (.map kt et)) (J:bp ρ x=some (.map (some m))) (hm:fU ek ev h m l) :
 az P ⟨dst,.call ⟨.builtin .len,#[x],#[t]⟩,ty,pos,after,guard⟩ ρ h (.int .i64 (l.length:Nat)):=by
 intro n B a w Y Z;obtain⟨es,c,h1,h2⟩:=hm
 have hl:es.size=l.length:=by
  have:=congrArg List.length h2;simpa using this
 have I:P.underlying t=some (.map (P.mapKeyOf t) (P.mapElemOf t)):=by simp[Program.mapKeyOf,Program.mapElemOf,U]
 have:=run_len_map (P:=P) (w:=w) t ty m es c I (by rw[Z.heap];exact h1);rw[hl] at this;simp[execOp,resolve,invoke,builtin,Y.eval J,this,goInt]
end
end
end Go.Lw
namespace Go.Lw
section
variable {α:Type}{n i base size b:Nat}{h:aq}{t:TypeId}{v:Value}{xs:List Value}
theorem bN.at {α:Type}{enc:α->Value}{h:aq}{base:Nat}{t:TypeId}{v:Value}{xs:List α}(k:bN enc h base t v xs){i:Nat}{x:α}(J:xs[i]? =some x) :
 ∃g c,v= .slice (some ⟨g,0,none⟩) xs.length c/\base<=g/\g<h.size/\cellAt h ⟨g,0+i*1,none⟩=some (enc x)/\frozenAt h ⟨g,0+i*1,none⟩=false /\
  ∀y,bN enc (dx h ⟨g,0+i*1,none⟩ (enc y)) base t v (xs.set i y):=by
 obtain⟨oa,c,rfl,hw⟩:=(show aB h base t 1 v xs.length (xs.map enc) from k).open;obtain⟨g,U,Z,I,hc,Y⟩:=hw.at (i:=i) (x:=enc x) (by rw[List.getElem?_map,J];rfl);refine⟨g,c,by rw[U],Z,I,hc,Y,λy=>?_⟩;have hi:i<xs.length:=(List.getElem?_eq_some_iff.1 J).1;have:=(hw.set U hi (enc y)).own;unfold bN;rw[List.length_set,List.map_set];exact this
theorem Dz {l:List α}{z:α}(hl:l.length=n) (hi:i<n):(l.take i++List.replicate (n-i) z).set i l[i]=l.take (i+1)++List.replicate (n-(i+1)) z:=by
 rw[List.set_append_right _ _ (by simp;omega)];have J:i-(l.take i).length=0:=by simp;omega
 have I:n-i=(n-(i+1))+1:=by omega
 rw[J,I,List.replicate_succ,List.set_cons_zero,List.take_succ_eq_append_getElem (by omega),List.append_assoc];rfl
theorem DC {l:List α}{z:α}(hl:l.length=n) (hi:i<n):(l.take i++List.replicate (n-i) z)[i]? =some z:=by
 have h1:(l.take i).length=i:=by rw[List.length_take];omega
 rw[List.getElem?_append_right (by omega),h1,Nat.sub_self,List.getElem?_replicate,if_pos (by omega)]
theorem DB {l:List α}{z:α}(hl:l.length=n) (hi:i<=n):(l.take i++List.replicate (n-i) z).length=n:=by
 rw[List.length_append,List.length_take,List.length_replicate];omega
theorem aL.row {α:Type}{enc:α->Value} {h1:∀x,(enc x).oneCell'=true}{h:aq}{O:Nat->Prop}{oa:Option Addr}{n c:Nat}{xs:List α}(k:aL (.flat enc h1) h O (.slice oa n c) xs):xs.length=n/\(n=0\/∃b o,oa=some ⟨b,o,none⟩/\rowAt h b o (xs.map enc))/\n<=maxLen:=by
 obtain⟨oa',n',c',I,hl,hc,hm,J⟩:=k;cases I;have hs:Sl (.flat enc h1) h O oa n c xs:=⟨hl,hc,hm,J⟩
 exact⟨hl,Sl.row hs,by omega⟩
theorem fG.kC {sz:Nat}{enc:α->List Value}(hl:∀x,(enc x).length=sz) (h:aq) (x:α) (t:TypeId) (base:Nat) (I:base<=h.size){cs:List Value}(hc:cs=enc x):fG sz enc (h.push (.cells cs.toArray t)) base t (.slice (some ⟨h.size,0,none⟩) 1 1) [x]:=by
 subst hc;unfold fG;exact⟨by simp[hl],.inr ⟨h.size,1,(enc x).toArray,rfl,I,by simp,Nat.le_refl _,by simp[maxLen],by simp[hl],by simp[<-hl x]⟩⟩
theorem yO {I:Nat}(k:aB h base t size v n xs) (Z:∀b,v.ownBlock=some b->I<=b):aB h I t size v n xs:=by
 rcases k with ⟨J,Y|⟨g,cap,cur,rfl,hg,U⟩⟩
 · exact⟨J,.inl Y⟩
 · exact⟨J,.inr ⟨g,cap,cur,rfl,Z g rfl,U⟩⟩
theorem KR {a b:List α}(ha:a.length=n) (hb:b.length=n) (hi:i<n):(a.take i++b.drop i).set i a[i]=a.take (i+1)++b.drop (i+1):=by
 have h1:(a.take i).length=i:=by rw[List.length_take];omega
 have I:b.drop i=b[i]::b.drop (i+1):=List.drop_eq_getElem_cons (by omega);rw[List.set_append_right _ _ (by omega),I,h1,Nat.sub_self,List.set_cons_zero,List.take_succ_eq_append_getElem (by omega),List.append_assoc];rfl
theorem Bp {a b:List α}(ha:a.length=n) (hi:i<n):(a.take i++b.drop i)[i]? =b[i]? :=by
 have h1:(a.take i).length=i:=by rw[List.length_take];omega
 rw[List.getElem?_append_right (by omega),h1,Nat.sub_self,List.getElem?_drop];rfl
theorem Bo {a b:List α}(ha:a.length=n) (hb:b.length=n) (hi:i<=n):(a.take i++b.drop i).length=n:=by
 rw[List.length_append,List.length_take,List.length_drop];omega
theorem aB.ty (k:aB h base t size v n xs) (I:v.ownBlock=some b):∃cur:Array Value,∃fr,h[b]? =some (.cells cur t fr):=by
 rcases k.2 with ⟨rfl,_⟩|⟨g,cap,cur,rfl,_,J,_⟩
 · cases I
 · cases I;exact⟨_,_,J⟩
def dI (h:aq) (b:Nat) (t:TypeId):Prop:=∃cur:Array Value,∃fr,h[b]? =some (.cells cur t fr)
theorem dI.ne {b':Nat}{t':TypeId}(k:dI h b t) (k':dI h b' t') (J:t≠t'):b≠b':=by
 rintro rfl;obtain⟨c,f,h1⟩:=k;obtain⟨c',f',I⟩:=k';rw[h1] at I;cases I;exact J rfl
theorem aC.ty {cs:List Value}(k:aC h b t cs):dI h b t:=⟨_,_,k⟩
theorem fU.ne {β:Type}{ek:α->Value}{ev:β->Value}{m:Nat}{l:List (α×β)}(k:fU ek ev h m l) (k':dI h b t):m≠b:=by
 rintro rfl;obtain⟨es,c,h1,_⟩:=k;obtain⟨c',f',I⟩:=k';rw[h1] at I;cases I
theorem dI.ext {M:Nat->Prop}{h':aq}(k:dI h b t) (e:Ext M h h') (hm:¬M b):dI h' b t:=by
 obtain⟨c,f,h1⟩:=k;exact⟨c,f,(e.block b (Array.getElem?_eq_some_iff.1 h1).1 hm).trans h1⟩
theorem dI.lt (k:dI h b t):b<h.size:=by
 obtain⟨c,f,h1⟩:=k;exact(Array.getElem?_eq_some_iff.1 h1).1
theorem aB.LR {enc:α->Value} {h1:∀x,(enc x).oneCell'=true}{O:Nat->Prop}{xs:List α}(k:aB h base t 1 v n (xs.map enc)) (ho:∀b,v.ownBlock=some b->¬O b):aL (.flat enc h1) h O v xs:=by
 have Z:aL (.flat enc h1) h (λ_=>False) v xs:=aB.shut k (λ_ _ k=>k)
 rcases k.2 with ⟨rfl,hn0⟩|⟨g,cap,cur,rfl,hb,hg,hnc,hc,hs,ht⟩
 · have hl:xs.length=0:=by have:=k.1;simp at this;omega
   have:xs=[]:=List.eq_nil_of_length_eq_zero hl;subst this;exact⟨none,0,0,rfl,rfl,Nat.le_refl _,by simp[maxLen],λi x U=>by simp at U⟩
 · obtain⟨oa,n',c',hv,hl,I,Y,J⟩:=Z;cases hv;refine⟨_,_,_,rfl,hl,I,Y,λi x U=>?_⟩;obtain⟨b,o,cs,h2,_,h3,h4⟩:=J i x U;cases h2;exact⟨_,_,cs,rfl,ho _ rfl,h3,h4⟩
section
variable {P:Program}{ρ:Env}{h:aq}{dst:Option Nat}{ty:TypeId}{pos:String}{after:Array Edge}{guard:Option (Nat×Bool)}{X:List PanicEntry->aq->Prop}
theorem az.xP {e:TypeId}{x y:Operand}{cs:Array Value}{k:IntKind}{j:Int}(hu:P.underlying t=some (.array n e)) (hs:cK P e=some 1) (hr:aX P e=some false) (U:bp ρ x=some (.agg cs)) (J:bp ρ y=some (.int k j)) (i:Nat) (Z:j=i) (hi:i<n) (Y:cs[i]? =some v) :
 az P ⟨dst,.index t x y,ty,pos,after,guard⟩ ρ h v:=by
 intro _ B a w I _;subst Z;simp[execOp,Instr.index,run_underlying hu,asIntOf,I.eval U,I.eval J,run_sizeOf hs,hi,part,kf hr,Y]
theorem aV.Ar {e:TypeId}{bytes:Nat}{x y:Operand}{news:List Value}{m c:Nat}{h0:aq}(ht:P.underlying t=some (.slice e)) (he:dS P e size bytes)
 (hx:bp ρ x=some v) (Z:bp ρ y=some (.slice (some ⟨h0.size,0,none⟩) m c)) (I:aB h0 base e size v n xs) (hh:h=h0.push (.cells news.toArray e)) (hl:news.length=m*size)
 (h1:∀u∈news,u.oneCell'=true) (hn:n+m<=maxLen) (hmul:(n+m)*bytes<=140737488355328) (hbase:base<=h0.size) :
 aV P ⟨dst,.call ⟨.builtin .append,#[x,y],#[t,t]⟩,ty,pos,after,guard⟩ ρ h (λv' h'=>aB h' base e size v' (n+m) (xs++news)/\Ext (bU v.ownBlock) h0 h'/\Ext (bU v.ownBlock) h h'/\(∀b,v'.ownBlock=some b->v.ownBlock=some b\/h0.size<=b)) X:=by
 subst hh;have U:=Ext.push (λ_=>False) h0 (.cells news.toArray e);have hs:(h0.push (.cells news.toArray e)).size=h0.size+1:=by simp
 refine(aV.append ht he hx Z (I.ext U (λ_ _ k=>k)) hl (.inr ⟨_,_,rfl,ie _ _ _⟩) h1 hn hmul (by omega)).mono (λv' h' ⟨Y,J,_,k4⟩=>⟨Y,?_,J,λb hb=>?_⟩) (λ_ _ k=>k)
 · exact(aj.of U).trans J
 · rcases k4 b hb with k|k
   · exact .inl k
   · exact .inr (by omega)
end
end
end Go.Lw
