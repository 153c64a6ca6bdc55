/- What the proof of the statement leans on (part 6). -/
import Derived.Laws.IdiomStrings
import Derived.Laws.BytesArg
import Derived.Test.YtdihgdeciopfpaaGreatDoorQe

namespace Go.Lw
open Go.RowKit
section
variable {t e:TypeId}{v:Value}{n sz:Nat}{O:Nat->Prop}{h:au}
section
variable {P:Program}{ρ:Env}{h:au}{dst:Option Nat}{ty:TypeId}{pos:String}{after:Array Edge}{guard:Option (Nat×Bool)}{X:List PanicEntry->au->Prop}
theorem fy (h:au) (us:List Value) (t:TypeId):rowAt (h.push (.cells us.toArray t)) h.size 0 us:=fun j v hv=>by
 rw[Nat.zero_add];exact qh h _ _ _ _ _ (by simpa using hv)
theorem ax.cA {size bytes:Nat}{ps:Array (Nat×Operand)}{cs:List Value}(ht:P.underlying t=some (.slice e)) (he:de P e size bytes)
 (hps:ps.toList.map (fun p=>(p.1,bE ρ p.2))=[(0,some (.agg cs.toArray))]) (hn:cs.length=size) (hsz:size<=16777216) :
 ax P ⟨dst,.buildSlice t 1 ps,ty,pos,after,guard⟩ ρ h (fun u g=>u= .slice (some ⟨h.size,0,none⟩) 1 1/\g=h.push (.cells cs.toArray e)) X:=by
 refine ax.buildSlice (vs:=[(0,.agg cs.toArray)]) ht he hps (by omega) (fun z hz=>?_)
 have key:∀(cs:List Value) (k:Nat) (pre tl:List Value),pre.length=k->tl.length=cs.length ->
  (cs.zipIdx k).foldl (fun(a:Array Value) (p:Value×Nat)=>a.setIfInBounds p.2 p.1) (pre++tl).toArray=(pre++cs).toArray:=by
  intro cs
  induction cs with
  |nil =>
   intro k pre tl _ hl;have:tl=[]:=List.eq_nil_of_length_eq_zero (by simpa using hl);subst this;rfl
  |cons c cs ih =>
   intro k pre tl hp hl;cases tl with
   |nil=>simp at hl
   |cons t tl =>
    rw[List.zipIdx_cons,List.foldl_cons]
    have hset:(pre++t::tl).toArray.setIfInBounds k c=((pre++[c])++tl).toArray:=by
     subst hp;simp[List.set_append_right]
    simp only[hset];rw[ih (k+1) (pre++[c]) tl (by simp[hp]) (by simpa using hl)];simp
 subst hn;simp only[Instr.fill,Nat.zero_mul,Nat.one_mul,Value.cells];rw[if_neg (by simp)]
 congr 1
 have e1:(Array.map (fun x=>z[x%z.size]!) (Array.range cs.length))=([]++(List.range cs.length).map (fun x=>z[x%z.size]!)).toArray:=by
  apply Array.ext';simp
 rw[e1];have:=key cs 0 [] ((List.range cs.length).map (fun x=>z[x%z.size]!)) rfl (by simp)
 have e2:(cs.toArray.zipIdx.foldl (fun(a:Array Value) (p:Value×Nat)=>a.setIfInBounds (0+p.2) p.1) ([]++(List.range cs.length).map (fun x=>z[x%z.size]!)).toArray)=([]++cs).toArray:=by
  rw[<-this];simp
 simpa using e2
theorem ax.bN {size bytes:Nat}{x y:Operand}{xs news:List Value}{m c base:Nat}{h0:au}(ht:P.underlying t=some (.slice e)) (he:de P e size bytes)
 (hx:bE ρ x=some v) (hy:bE ρ y=some (.slice (some ⟨h0.size,0,none⟩) m c)) (hown:aC h0 base e size v n xs) (hh:h=h0.push (.cells news.toArray e)) (hl:news.length=m*size)
 (h1:∀u∈news,u.oneCell'=true) (hn:n+m<=1000000000) (hby:bytes<=1000) (hbase:base<=h0.size) :
 ax P ⟨dst,.call ⟨.builtin .append,#[x,y],#[t,t]⟩,ty,pos,after,guard⟩ ρ h (fun v' h'=>aC h' base e size v' (n+m) (xs++news)/\Ext (cC v.ownBlock) h0 h'/\Ext (cC v.ownBlock) h h'/\(∀b,v'.ownBlock=some b->v.ownBlock=some b\/h0.size<=b)) X:=by
 subst hh;have hp:=Ext.push (fun _=>False) h0 (.cells news.toArray e);have hs:(h0.push (.cells news.toArray e)).size=h0.size+1:=by simp
 have hmul:(n+m)*bytes<=1000000000*1000:=Nat.mul_le_mul hn hby
 refine(ax.append ht he hx hy (hown.ext hp (fun _ _ k=>k)) hl (.inr ⟨_,_,rfl,fy _ _ _⟩) h1 (by simp only[maxLen];omega) (by omega) (by omega)).mono (fun v' h' ⟨k1,k2,_,k4⟩=>⟨k1,?_,k2,fun b hb=>?_⟩) (fun _ _ k=>k)
 · exact(av.of hp).trans k2
 · rcases k4 b hb with k|k
   · exact .inl k
   · exact .inr (by omega)
theorem ai.gW {s d:TypeId}{x:Operand}{l:List UInt8}(hs:P.underlying s=some (.slice e)) (he:P.underlying e=some (.int .u8)) (hd:P.underlying d=some .string)
 (hx:bE ρ x=some v) (hv:bF .byte h O v l):ai P ⟨dst,.convert s d x,ty,pos,after,guard⟩ ρ h (.string ⟨l.toArray⟩):=by
 intro _ B a w hf ha;obtain⟨oa,n,c,rfl,hsl⟩:=hv.open;have hn:=hsl.len;subst hn
 have key:(convert s d (.slice oa l.length c)).run P w= .ok (.string ⟨l.toArray⟩) w:=by
  cases oa with
  |none =>
   have hl:l=[]:=by
    rcases Nat.eq_zero_or_pos l.length with h0|h0
    · exact List.eq_nil_of_length_eq_zero h0
    · obtain⟨b,o,x,ha,_⟩:=hsl.at h0;cases ha
   subst hl;rw[run_convert_bytes_string w s d e none _ c hs he hd];rfl
  |some p =>
   refine run_convert_bytes_back w s d e p c l hs he hd (fun j hj=>?_);obtain⟨b,o,y,hp,_,hy,hc⟩:=hsl.at hj;cases hp;rw[ha.cell];rw[List.getElem?_eq_getElem hj] at hy;cases hy;simpa [Addr.add_mid] using hc
 simp only[execOp,hf.eval hx,Sem.run_bind,key,Result.andThen_ok,Sem.run_pure]
end
def fF.record {α:Type}(sz:Nat) (pos:0<sz) (enc:α->List Value) (hl:∀x,(enc x).length=sz) (h1:∀x,∀v∈enc x,v.oneCell'=true):fF α where
 sz:=sz
 pos:=pos
 R:=fun _ _ cs x=>cs=enc x
 len:=fun h=>by subst h;exact hl _
 one:=fun h=>by subst h;exact h1 _
 mv:=fun h _=>h
theorem Sl.iR {α:Type}{pos:0<sz}{enc:α->List Value} {hl:∀x,(enc x).length=sz} {h1:∀x,∀v∈enc x,v.oneCell'=true}{oa:Option Addr}{c:Nat}{xs:List α}(k:Sl (.record sz pos enc hl h1) h O oa n c xs){i:Nat}(hi:i<n) :
 ∃b o x,oa=some ⟨b,o,none⟩/\¬O b/\xs[i]? =some x/\rowAt h b (o+i*sz) (enc x):=by
 have hlt:i<xs.length:=by rw[k.len];exact hi
 obtain⟨b,o,cs,ha,ho,hr,hR⟩:=k.get i xs[i] (List.getElem?_eq_getElem hlt);have hcs:cs=enc xs[i]:=hR;subst hcs;exact⟨b,o,xs[i],ha,ho,List.getElem?_eq_getElem hlt,hr⟩
theorem eW {α:Type}{sz:Nat}{enc:α->List Value}(hl:∀x,(enc x).length=sz):∀(xs:List α) (i:Nat) (x:α) (j:Nat) (v:Value),xs[i]? =some x->(enc x)[j]? =some v->(xs.flatMap enc)[i*sz+j]? =some v
 | [],i,x,j,v,hx,_=>by simp at hx
 |y::ys,0,x,j,v,hx,hv=>by
  simp at hx;subst hx;have:j<(enc y).length:=(List.getElem?_eq_some_iff.1 hv).1;rw[List.flatMap_cons,Nat.zero_mul,Nat.zero_add,List.getElem?_append_left this];exact hv
 |y::ys,i+1,x,j,v,hx,hv=>by
  rw[List.flatMap_cons,List.getElem?_append_right (by rw[hl,Nat.add_mul];omega),hl];have:(i+1)*sz+j-sz=i*sz+j:=by rw[Nat.add_mul];omega
  rw[this];exact eW hl ys i x j v (by simpa using hx) hv
theorem ec {α:Type}{sz:Nat}{enc:α->List Value}(hl:∀x,(enc x).length=sz):∀xs:List α,(xs.flatMap enc).length=xs.length*sz
 | []=>by simp
 |y::ys=>by rw[List.flatMap_cons,List.length_append,hl,ec hl ys,List.length_cons,Nat.add_mul];omega
theorem aC.Fp {α:Type}{pos:0<sz}{enc:α->List Value} {hl:∀x,(enc x).length=sz} {h1:∀x,∀v∈enc x,v.oneCell'=true}{base:Nat}{xs:List α}
 (k:aC h base t sz v n (xs.flatMap enc)) (ho:∀b,base<=b->¬O b):bF (.record sz pos enc hl h1) h O v xs:=by
 have hn:xs.length=n:=by
  have:=k.1;rw[ec hl] at this;exact Nat.eq_of_mul_eq_mul_right pos this
 rcases k.2 with ⟨rfl,rfl⟩|⟨g,cap,cur,rfl,hb,hg,hnc,hc,hs,ht⟩
 · exact⟨none,0,0,rfl,hn,Nat.le_refl _,by simp[maxLen],fun i x hx=>by
    have:xs=[]:=List.eq_nil_of_length_eq_zero hn;subst this;simp at hx⟩
 · refine⟨some ⟨g,0,none⟩,n,cap,rfl,hn,hnc,hc,fun i x hx=>⟨g,0,enc x,rfl,ho g hb,?_,rfl⟩⟩;intro j u hj;have h2:=eW hl xs i x j u hx hj;rw[<-ht,List.getElem?_take] at h2;split at h2
   · have h3:cur[i*sz+j]? =some u:=by simpa using h2
     simpa [cellAt,hg,fF.record,Nat.add_assoc] using h3
   · cases h2
theorem aY.dB {P:Program}{ρ:Env}{a:Tmp}{b o:Nat}{cs:List Value}(hr:aZ P t=some true) (hs:ck P t=some sz) (hx:ρ.at a=some (.pointer (some ⟨b,o,none⟩))) (hc:rowAt h b o cs) (hn:cs.length=sz):aY P ρ h (.cell a t) (.agg cs.toArray) :=
 aY.row hr (by rw[hn];exact hs) hx hc
end
end Go.Lw
namespace Go.Lw
section
variable {α:Type}{h h':au}{base sz:Nat}{t:TypeId}{v:Value}
def cj {α:Type}(enc:α->Value) (h:au) (base:Nat) (t:TypeId) (v:Value) (xs:List α):Prop:=aC h base t 1 v xs.length (xs.map enc)
theorem cj.of {enc:α->Value}{xs ys:List α}{n m:Nat}{news:List Value}(k:aC h base t 1 v (n+m) (xs.map enc++news)) (hn:n=xs.length) (hm:m=ys.length) (hnews:news=ys.map enc):cj enc h base t v (xs++ys):=by
 unfold cj;subst hn hm hnews;simpa using k
theorem cj.nil {α:Type}(enc:α->Value) (h:au) (base:Nat) (t:TypeId):cj enc h base t (.slice none 0 0) []:=aC.nil h base t 1
theorem tQ {α:Type}(enc:α->Value) (h:au) (t:TypeId) (xs:List α) (n:Nat) (hn:xs.length=n) (hm:n<=maxLen) (base:Nat) (hb:base<=h.size){us:List Value}(hu:us=xs.map enc):cj enc (h.push (.cells us.toArray t)) base t (.slice (some ⟨h.size,0,none⟩) n n) xs:=by
 subst hn hu;exact EJ h (xs.map enc) t xs.length (by simp) hm base hb
theorem cj.read {enc:α->Value} {h1:∀x,(enc x).oneCell'=true}{O:Nat->Prop}{xs:List α}(k:cj enc h base t v xs) (ho:∀b,base<=b->¬O b):bF (.flat enc h1) h O v xs:=aC.shut k ho
theorem cj.aq {enc:α->Value}{xs:List α}(k:cj enc h base t v xs) (e:av h h'):cj enc h' base t v xs:=aC.ext e k (fun _ _ k=>k)
theorem cj.grown {enc:α->Value}{h0:au}{xs:List α}(e0:av h0 h) (k:cj enc h base t v xs) (hb:h0.size<=base) (e:Ext (cC v.ownBlock) h h'):av h0 h':=Ext.own e0 k hb e
def kE (b:UInt8):Value:=.int .u8 b.toNat
abbrev EP (h:au) (base:Nat) (t:TypeId) (v:Value) (xs:List UInt8):Prop:=cj kE h base t v xs
def dw {α:Type}(sz:Nat) (enc:α->List Value) (h:au) (base:Nat) (t:TypeId) (v:Value) (xs:List α):Prop:=aC h base t sz v xs.length (xs.flatMap enc)
theorem dw.of {enc:α->List Value}{xs:List α}{y:α}{n:Nat}{news:List Value}(k:aC h base t sz v (n+1) (xs.flatMap enc++news)) (hn:n=xs.length) (hnews:news=enc y):dw sz enc h base t v (xs++[y]):=by
 unfold dw;subst hn hnews;simpa using k
theorem dw.nil {α:Type}(sz:Nat) (enc:α->List Value) (h:au) (base:Nat) (t:TypeId):dw sz enc h base t (.slice none 0 0) []:=aC.nil h base t sz
theorem dw.aq {enc:α->List Value}{xs:List α}(k:dw sz enc h base t v xs) (e:av h h'):dw sz enc h' base t v xs:=aC.ext e k (fun _ _ k=>k)
theorem dw.read {pos:0<sz}{enc:α->List Value} {hl:∀x,(enc x).length=sz} {h1:∀x,∀v∈enc x,v.oneCell'=true}{O:Nat->Prop}{xs:List α}(k:dw sz enc h base t v xs) (ho:∀b,base<=b->¬O b):bF (.record sz pos enc hl h1) h O v xs:=aC.Fp k ho
end
end Go.Lw
namespace Go.Lw
section
variable {α:Type}{O O':Nat->Prop}{h:au}{base:Nat}{t:TypeId}{v:Value}{cs:List Value}
def eM {α:Type}(e:fF α) (O:Nat->Prop) (h:au) (base:Nat) (t:TypeId) (v:Value) (xs:List α):Prop :=
 ∃css:List (List Value),css.length=xs.length/\aC h base t e.sz v xs.length css.flatten/\∀(i:Nat) (cs:List Value) (x:α),css[i]? =some cs->xs[i]? =some x->e.R h (fun b=>cC v.ownBlock b\/O b) cs x
theorem eM.nil {α:Type}(e:fF α) (O:Nat->Prop) (h:au) (base:Nat) (t:TypeId):eM e O h base t (.slice none 0 0) [] :=
 ⟨[],rfl,aC.nil h base t e.sz,fun i cs x h1=>by simp at h1⟩
theorem eM.own {e:fF α}{xs:List α}(k:eM e O h base t v xs):∃cells,aC h base t e.sz v xs.length cells:=by
 obtain⟨css,_,h1,_⟩:=k;exact⟨_,h1⟩
theorem eM.mv {α:Type}{e:fF α}{O O':Nat->Prop}{h h':au}{base:Nat}{t:TypeId}{v:Value}{xs:List α}(k:eM e O h base t v xs) (x:Ext O h h') (hb:∀b,base<=b->¬O b) (hO:∀b,b<h.size->O' b->O b):eM e O' h' base t v xs:=by
 obtain⟨css,h1,h2,h3⟩:=k;have h4:∀b,v.ownBlock=some b->¬O b:=fun b hv=>hb b (h2.lt hv).1
 refine⟨css,h1,h2.ext x h4,fun i cs y hc hy=>e.mv (h3 i cs y hc hy) ⟨x.size,fun b hlt hn=>⟨x.block b hlt (fun k=>hn (.inr k)),fun k=>hn (k.imp id (hO b hlt))⟩⟩⟩
theorem eM.aq {α:Type}{e:fF α}{O:Nat->Prop}{h h':au}{base:Nat}{t:TypeId}{v:Value}{xs:List α}(k:eM e O h base t v xs) (x:av h h'):eM e O h' base t v xs:=by
 obtain⟨css,h1,h2,h3⟩:=k;exact⟨css,h1,h2.ext x (fun _ _ k=>k),fun i cs y hc hy=>e.mv (h3 i cs y hc hy) (Mv.aq x)⟩
theorem eM.mB {e:fF α}{h':au}{v':Value}{xs:List α}{y:α}{css:List (List Value)}(h1:css.length=xs.length)
 (h3:∀(i:Nat) (cs:List Value) (x:α),css[i]? =some cs->xs[i]? =some x->e.R h (fun b=>cC v.ownBlock b\/O b) cs x) (ho:aC h' base t e.sz v' (xs.length+1) (css.flatten++cs))
 (hx:Ext (cC v.ownBlock) h h') (hv:∀b,v'.ownBlock=some b->v.ownBlock=some b\/h.size<=b) (hy:e.R h (fun b=>cC v.ownBlock b\/O b) cs y):eM e O h' base t v' (xs++[y]):=by
 have hm:Mv (fun b=>cC v.ownBlock b\/O b) (fun b=>cC v'.ownBlock b\/O b) h h':=⟨hx.size,fun b hlt hnb=>⟨hx.block b hlt (fun k=>hnb (.inl k)),fun k=>by
  rcases k with k|k
  · rcases hv b k.symm with k'|k'
    · exact hnb (.inl k'.symm)
    · omega
  · exact hnb (.inr k)⟩⟩
 refine⟨css++[cs],by simp[h1],by simpa using ho,fun i cs' y' hc' hy'=>?_⟩
 rcases Nat.lt_or_ge i xs.length with hi|hi
 · rw[List.getElem?_append_left (by omega)] at hc' hy';exact e.mv (h3 i cs' y' hc' hy') hm
 · rw[List.getElem?_append_right (by omega)] at hc' hy';rw[h1] at hc';cases hj:i-xs.length with
   |zero=>rw[hj] at hc' hy';simp at hc' hy';subst hc' hy';exact e.mv hy hm
   |succ j=>rw[hj] at hy';simp at hy'
theorem eM.jn {e:fF α}{x:α}(k:e.R h O cs x) (hb:base<=h.size):eM e O (h.push (.cells cs.toArray t)) base t (.slice (some ⟨h.size,0,none⟩) 1 1) [x]:=by
 have hl:=e.len k;refine⟨[cs],rfl,⟨by simp[hl],.inr ⟨h.size,1,cs.toArray,rfl,hb,by simp,Nat.le_refl _,by simp[maxLen],by simp[hl],by simp[<-hl]⟩⟩,fun i cs' y hc hy=>?_⟩;cases i with
 |zero =>
  simp at hc hy;subst hc hy
  exact e.mv k ⟨by simp,fun b hb' ho=>⟨(Ext.push (fun _=>False) h _).block b hb' (fun k=>k),fun k=>by
   rcases k with k|k
   · simp[cC,Value.ownBlock] at k;omega
   · exact ho k⟩⟩
 |succ i=>simp at hy
theorem jH {α:Type}{sz:Nat}:∀(css:List (List α)) (i:Nat) (cs:List α) (j:Nat) (v:α),(∀c∈css,c.length=sz)->css[i]? =some cs->cs[j]? =some v->css.flatten[i*sz+j]? =some v
 | [],i,cs,j,v,_,hx,_=>by simp at hx
 |c::css,0,cs,j,v,_,hx,hv=>by
  simp at hx;subst hx;have:j<c.length:=(List.getElem?_eq_some_iff.1 hv).1;rw[List.flatten_cons,Nat.zero_mul,Nat.zero_add,List.getElem?_append_left this];exact hv
 |c::css,i+1,cs,j,v,hl,hx,hv=>by
  have h0:c.length=sz:=hl c (by simp);rw[List.flatten_cons,List.getElem?_append_right (by rw[h0,Nat.add_mul];omega),h0];have:(i+1)*sz+j-sz=i*sz+j:=by rw[Nat.add_mul];omega
  rw[this];exact jH css i cs j v (fun c hc=>hl c (by simp[hc])) (by simpa using hx) hv
theorem eM.read {e:fF α}{xs:List α}(k:eM e O h base t v xs) (ho:∀b,base<=b->¬O' b) (hO:∀b,b<h.size->O' b->O b):bF e h O' v xs:=by
 obtain⟨css,h1,h2,h3⟩:=k;have hm:Mv (fun b=>cC v.ownBlock b\/O b) O' h h:=⟨Nat.le_refl _,fun b hb hn=>⟨rfl,fun k=>hn (.inr (hO b hb k))⟩⟩
 have hlen:∀c∈css,c.length=e.sz:=fun c hc=>by
  obtain⟨i,hi⟩:=List.getElem?_of_mem hc;have hlt:i<xs.length:=by rw[<-h1];exact(List.getElem?_eq_some_iff.1 hi).1
  exact e.len (h3 i c xs[i] hi (List.getElem?_eq_getElem hlt))
 rcases h2.2 with ⟨rfl,hn0⟩|⟨g,cap,cur,rfl,hb,hg,hnc,hc,hs,ht⟩
 · exact⟨none,0,0,rfl,hn0,Nat.le_refl _,by simp[maxLen],fun i x hx=>by
    have:xs=[]:=List.eq_nil_of_length_eq_zero hn0;subst this;simp at hx⟩
 · refine⟨some ⟨g,0,none⟩,xs.length,cap,rfl,rfl,hnc,hc,fun i x hx=>?_⟩;have hlt:i<css.length:=by rw[h1];exact(List.getElem?_eq_some_iff.1 hx).1
   refine⟨g,0,css[i],rfl,ho g hb,?_,e.mv (h3 i _ x (List.getElem?_eq_getElem hlt) hx) hm⟩;intro j u hj;have h4:=jH css i css[i] j u hlen (List.getElem?_eq_getElem hlt) hj;rw[<-ht,List.getElem?_take] at h4;split at h4
   · have h5:cur[i*e.sz+j]? =some u:=by simpa using h4
     simpa [cellAt,hg,Nat.add_assoc] using h5
   · cases h4
theorem bF.jn {e:fF α}{x:α}(k:e.R h O cs x) (ho:¬O h.size):bF e (h.push (.cells cs.toArray t)) O (.slice (some ⟨h.size,0,none⟩) 1 1) [x] :=
 ⟨_,1,1,rfl,rfl,Nat.le_refl _,by simp[maxLen],fun i y hy=>by
  cases i with
  |zero =>
   simp at hy;subst hy;refine⟨h.size,0,cs,rfl,ho,?_,e.mv k (Mv.aq (Ext.push _ _ _))⟩;simpa using fy h cs t
  |succ i=>simp at hy⟩
theorem eM.DZ {e:fF α}{M:Nat->Prop}{h':au}{xs:List α}(k:eM e O h base t v xs) (x:Ext M h h') (hown:∀b,v.ownBlock=some b->¬M b) (hM:∀b,b<h.size->M b->O b) (hO:∀b,b<h.size->O' b->O b):eM e O' h' base t v xs:=by
 obtain⟨css,h1,h2,h3⟩:=k;refine⟨css,h1,h2.ext x hown,fun i cs y hc hy=>e.mv (h3 i cs y hc hy) ⟨x.size,fun b hlt hn=>⟨x.block b hlt (fun k=>hn (.inr (hM b hlt k))),fun k=>hn (k.imp id (hO b hlt))⟩⟩⟩
theorem eM.Fu {e:fF α}{xs:List α}(k:eM e O h base t v xs) (ho:∀b,v.ownBlock=some b->¬O' b) (hO:∀b,b<h.size->O' b->O b):bF e h O' v xs:=by
 obtain⟨css,h1,h2,h3⟩:=k;have hm:Mv (fun b=>cC v.ownBlock b\/O b) O' h h:=⟨Nat.le_refl _,fun b hb hn=>⟨rfl,fun k=>hn (.inr (hO b hb k))⟩⟩
 have hlen:∀c∈css,c.length=e.sz:=fun c hc=>by
  obtain⟨i,hi⟩:=List.getElem?_of_mem hc;have hlt:i<xs.length:=by rw[<-h1];exact(List.getElem?_eq_some_iff.1 hi).1
  exact e.len (h3 i c xs[i] hi (List.getElem?_eq_getElem hlt))
 rcases h2.2 with ⟨rfl,hn0⟩|⟨g,cap,cur,rfl,hb,hg,hnc,hc,hs,ht⟩
 · exact⟨none,0,0,rfl,hn0,Nat.le_refl _,by simp[maxLen],fun i x hx=>by
    have:xs=[]:=List.eq_nil_of_length_eq_zero hn0;subst this;simp at hx⟩
 · refine⟨some ⟨g,0,none⟩,xs.length,cap,rfl,rfl,hnc,hc,fun i x hx=>?_⟩;have hlt:i<css.length:=by rw[h1];exact(List.getElem?_eq_some_iff.1 hx).1
   refine⟨g,0,css[i],rfl,ho g rfl,?_,e.mv (h3 i _ x (List.getElem?_eq_getElem hlt) hx) hm⟩;intro j u hj;have h4:=jH css i css[i] j u hlen (List.getElem?_eq_getElem hlt) hj;rw[<-ht,List.getElem?_take] at h4;split at h4
   · have h5:cur[i*e.sz+j]? =some u:=by simpa using h4
     simpa [cellAt,hg,Nat.add_assoc] using h5
   · cases h4
end
end Go.Lw
namespace Go.Lw
theorem aC.sO {h h':au}{base:Nat}{t:TypeId}{size:Nat}{v:Value}{n:Nat}{xs:List Value}(k:aC h base t size v n xs) (e:av h h'):aC h' base t size v n xs:=aC.ext e k (fun _ _ k=>k)
end Go.Lw
namespace Go.Lw
theorem kX {α:Type}{sz:Nat}:∀(css:List (List α)) (i:Nat) (cs:List α) (o:Nat) (u:α),(∀c∈css,c.length=sz)->css[i]? =some cs->o<sz->(css.set i (cs.set o u)).flatten=css.flatten.set (i*sz+o) u
 | [],i,cs,o,u,_,hx,_=>by simp at hx
 |c::css,0,cs,o,u,hl,hx,ho=>by
  simp at hx;subst hx;have h0:c.length=sz:=hl c (by simp);rw[List.set_cons_zero,List.flatten_cons,List.flatten_cons,Nat.zero_mul,Nat.zero_add,List.set_append_left _ _ (by omega)]
 |c::css,i+1,cs,o,u,hl,hx,ho=>by
  have h0:c.length=sz:=hl c (by simp);have hge:c.length<=(i+1)*sz+o:=by rw[h0,Nat.add_mul];omega
  rw[List.set_cons_succ,List.flatten_cons,List.flatten_cons,List.set_append_right _ _ hge,h0];have:(i+1)*sz+o-sz=i*sz+o:=by rw[Nat.add_mul];omega
  rw[this,kX css i cs o u (fun c hc=>hl c (by simp[hc])) (by simpa using hx) ho]
theorem eM.put {α:Type}{e:fF α}{O:Nat->Prop}{h:au}{base:Nat}{t:TypeId}{v:Value}{xs:List α}(k:eM e O h base t v xs){i:Nat}{x:α}(hx:xs[i]? =some x) :
 ∃g c cs,v= .slice (some ⟨g,0,none⟩) xs.length c/\base<=g/\g<h.size/\Lw.rowAt h g (0+i*e.sz) cs/\(∀o,frozenAt h ⟨g,o,none⟩=false)/\e.R h (fun b=>cC v.ownBlock b\/O b) cs x /\
  ∀(o:Nat) (u:Value) (y:α),o<e.sz->e.R h (fun b=>cC v.ownBlock b\/O b) (cs.set o u) y->eM e O (dP h ⟨g,0+i*e.sz+o,none⟩ u) base t v (xs.set i y):=by
 obtain⟨css,h1,h2,h3⟩:=k;have hi:i<xs.length:=(List.getElem?_eq_some_iff.1 hx).1
 have hlen:∀c∈css,c.length=e.sz:=fun c hc=>by
  obtain⟨j,hj⟩:=List.getElem?_of_mem hc;have hlt:j<xs.length:=by rw[<-h1];exact(List.getElem?_eq_some_iff.1 hj).1
  exact e.len (h3 j c xs[j] hj (List.getElem?_eq_getElem hlt))
 rcases h2.2 with ⟨_,hn0⟩|⟨g,cap,cur,rfl,hb,hg,hnc,hc,hs,ht⟩
 · omega
 have hic:i<css.length:=by omega
 have hcs:css[i]? =some css[i]:=List.getElem?_eq_getElem hic;refine⟨g,cap,css[i],rfl,hb,(Array.getElem?_eq_some_iff.1 hg).1,?_,fun o=>by simp[frozenAt,hg],h3 i _ x hcs hx,fun o u y ho hy=>?_⟩
 · intro j w hj;have h4:=jH css i css[i] j w hlen hcs hj;rw[<-ht,List.getElem?_take] at h4;split at h4
   · have h5:cur[i*e.sz+j]? =some w:=by simpa using h4
     simpa [cellAt,hg] using h5
   · cases h4
 · have hm:Mv (fun b=>cC (Value.slice (some ⟨g,0,none⟩) xs.length cap).ownBlock b\/O b) (fun b=>cC (Value.slice (some ⟨g,0,none⟩) xs.length cap).ownBlock b\/O b) h (dP h ⟨g,0+i*e.sz+o,none⟩ u) :=
    ⟨by rw[jh];exact Nat.le_refl _,fun b hlt hnb=>⟨(Ext.dP (M:=fun b=>b=g) h _ u rfl).block b hlt (fun k=>hnb (.inl (by subst k;rfl))),hnb⟩⟩
   refine⟨css.set i (css[i].set o u),by simp[h1],⟨?_,.inr ⟨g,cap,cur.setIfInBounds (0+i*e.sz+o) u,by simp,hb,q9 hg u,by simpa using hnc,hc,by simpa using hs,?_⟩⟩,fun j cs' y' hc' hy'=>?_⟩
   · rw[kX css i _ o u hlen hcs ho,List.length_set,List.length_set];exact h2.1
   · rw[kX css i _ o u hlen hcs ho,Array.toList_setIfInBounds,List.take_set,List.length_set,ht,Nat.zero_add]
   · rcases Nat.decEq i j with hne|rfl
     · rw[List.getElem?_set_ne hne] at hc' hy';exact e.mv (h3 j cs' y' hc' hy') hm
     · rw[List.getElem?_set_self hic] at hc';rw[List.getElem?_set_self hi] at hy';cases hc';cases hy';exact e.mv hy hm
end Go.Lw
